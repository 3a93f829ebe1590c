/-
  This text proves how one truth is written, in the program.
  This text proves how a message's lists are written, in the program; of lists of no more than 8 and 16.
  This text proves how a message is written, in the program; of lists of no more than 2^30.
  This text proves a truth's number, in the reference.
  This text proves how the reference writes one field of one cell.
  This text proves how the reference writes the entries of a message.
  This text proves how the reference writes the items of a message.
-/
import Derived.Handy
import Derived.IntWalk
import Derived.Test.YtjehefhckiimkaaRows
import Derived.Test.YtjehefhckiimkaaJA
import Derived.Test.YtjehefhckiimkaaJB
import Derived.Test.YtjehefhckiimkaaJC
import Derived.Test.YtjehefhckiimkaaJD
import Derived.Deep.DeepCutAuto
import Derived.Test.YtjehefhckiimkaaJDa
import Derived.Test.YtjehefhckiimkaaJE
import Derived.Test.YtjehefhckiimkaaJF
import Derived.Test.YtjehefhckiimkaaJGj
import Derived.Test.YtjehefhckiimkaaJFg
import Derived.Test.YtjehefhckiimkaaJGh
import Derived.Test.YtjehefhckiimkaaJGk
import Derived.Test.YtjehefhckiimkaaJDb
section
set_option linter.unusedSimpArgs false
set_option linter.unusedVariables false

namespace Go.Proofs.Ytjehefhckiimkaa
open Go.RowKit

set_option maxHeartbeats 800000 in
theorem msgBit (B : Nat) (S : Sl) (xs : List UInt8) (b : Bool) (w : World) (hB : B ≤ w.heap.size) (h : Own rowU8 w B S xs) (hl : xs.length ≤ 1073741824) :
    Calls Try.prog 38 #[.slice S.p xs.length S.c, .bool b] w fun e w' => ∃ S' zs, e = .returned (.slice S'.p zs.length S'.c) ∧ Hid (zs = xs ++ bitF b) ∧ Own rowU8 w' B S' zs ∧ Ext w w' S S' := by
  cases b
  · go_enter Try.func38, Try.ntmps38
    go_wp2_with (at_builtin; refine wl_append' rfl (.tmp 9) (.tmp 10) 22 22 rfl rfl (h.alloc _) rfl (src_block (ys := [(0:UInt8)]) (heap_alloc_new _ _) ?ca1) Try.underlying22 (.inl Try.underlying22) A_u8p rfl ?ca2 ?ca3 ?ca4 ?_)
    case ca1 => simp [flat, rowU8]
    case ca2 => simp; omega
    case ca3 => simp; omega
    case ca4 => simp; omega
    intro T' w1 qs HQ hown1 hext1
    go_wp2
    go_ret
    exact ⟨T', qs, rfl, HQ, hown1, (Ext.alloc _ _ _).trans hext1⟩
  · go_enter Try.func38, Try.ntmps38
    go_wp2_with (at_builtin; refine wl_append' rfl (.tmp 6) (.tmp 7) 22 22 rfl rfl (h.alloc _) rfl (src_block (ys := [(1:UInt8)]) (heap_alloc_new _ _) ?ca1) Try.underlying22 (.inl Try.underlying22) A_u8p rfl ?ca2 ?ca3 ?ca4 ?_)
    case ca1 => simp [flat, rowU8]
    case ca2 => simp; omega
    case ca3 => simp; omega
    case ca4 => simp; omega
    intro T' w1 qs HQ hown1 hext1
    go_wp2
    go_ret
    exact ⟨T', qs, rfl, HQ, hown1, (Ext.alloc _ _ _).trans hext1⟩
end Go.Proofs.Ytjehefhckiimkaa
end
section
set_option linter.unusedSimpArgs false
set_option linter.unusedVariables false

namespace Go.Proofs.Ytjehefhckiimkaa
open Go.RowKit

/-- a buffer that is written, beside a message and its fields -/
structure PL (w0 wr : World) (m : Msg) (U T : Sl) (fl : Array Value) (b4 b5 : Nat) (S : Sl) (zs : List UInt8) : Prop where
  bel : Below w0.heap.size w0 wr
  va : Var wr b4 (m.arr U T)
  vf : Var wr b5 fl
  own : Own rowU8 wr w0.heap.size S zs
  ne : S.b ≠ b4 ∧ S.b ≠ b5
  pos : 0 < zs.length
theorem PL.below {w0 wr w' : World} {m : Msg} {U T : Sl} {fl : Array Value} {b4 b5 : Nat} {S : Sl} {zs : List UInt8} (h : PL w0 wr m U T fl b4 b5 S zs) (hB : Below wr.heap.size wr w') : PL w0 w' m U T fl b4 b5 S zs :=
  ⟨h.bel.trans (hB.mono h.bel.size), h.va.below hB h.va.lt, h.vf.below hB h.vf.lt, h.own.below hB (Nat.le_refl _), h.ne, h.pos⟩
theorem PL.ext {w0 wr w' : World} {m : Msg} {U T : Sl} {fl : Array Value} {b4 b5 : Nat} {S S2 : Sl} {zs z2 : List UInt8} (h : PL w0 wr m U T fl b4 b5 S zs) (hg : Ext wr w' S S2) (own2 : Own rowU8 w' w0.heap.size S2 z2) (hp : 0 < z2.length) : PL w0 w' m U T fl b4 b5 S2 z2 :=
  ⟨h.bel.trans (hg.below h.own.lo h.bel.size), h.va.ext hg (fun e => h.ne.1 e.symm), h.vf.ext hg (fun e => h.ne.2 e.symm), own2, by
    have h1 := h.va.lt
    have h2 := h.vf.lt
    have h3 := h.ne
    rcases hg.at_ with e | e <;> omega, hp⟩
theorem PL.sb {w0 wr : World} {m : Msg} {U T : Sl} {fl : Array Value} {b4 b5 : Nat} {S : Sl} {zs : List UInt8} (h : PL w0 wr m U T fl b4 b5 S zs) : S.b < wr.heap.size := by
  have h1 := h.own.cap
  have h2 := h.pos
  rcases h.own.row with hc | ⟨_, cur, T, fr, hb, _⟩
  · omega
  · exact (Array.getElem?_eq_some_iff.1 hb).1
theorem u8wrap (n : Nat) (h : n ≤ 255) : IntKind.u8.wrap (n : Int) = ((UInt8.ofNat n).toNat : Int) := by
  rw [UInt8.toNat_ofNat']
  have : n % 2 ^ 8 = n := Nat.mod_eq_of_lt (by omega)
  rw [this]
  exact IntWalk.u8_in _ (by omega)
theorem entsB_snoc (l : List Entry) (e : Entry) : entsB (l ++ [e]) = entsB l ++ putText e.bytes := by simp [entsB]
theorem itemsB_snoc (l : List Item) (x : Item) : itemsB (l ++ [x]) = itemsB l ++ (((putText x.key.data.toList ++ putText x.val.data.toList) ++ putNum (u64of x.ver) 4) ++ bitF x.gone) := by simp [itemsB, Item.bytes]
theorem bitF_length (b : Bool) : (bitF b).length = 1 := rfl
theorem ent_len (e : Entry) (h : e.right = true) : e.bytes.length ≤ 65607 := by
  have h1 := body_length e
  have h2 := (right_parts h).2.2.2.2.2.2
  unfold Entry.bytes
  rw [List.length_append, size_toList]
  omega
set_option maxRecDepth 8000 in
set_option maxHeartbeats 3200000 in
theorem msgPutLists (m : Msg) (U T : Sl) (w0 : World) (h : MRd w0 m U T) (ok : MOk m) (hr : ∀ e ∈ m.ents, e.right = true) (he8 : m.ents.length ≤ 8) (hi16 : m.items.length ≤ 16) (fr fh fg fi fn fk fv fe ft : Bool)
    (w : World) (hb : Below w0.heap.size w0 w) (S : Sl) (xs : List UInt8) (hown : Own rowU8 w w0.heap.size S xs) (hx : 0 < xs.length) (hl : xs.length ≤ 1000000) :
    Calls Try.prog 40 #[.slice S.p xs.length S.c, m.val' U T, .agg #[.bool fr, .bool fh, .bool fg, .bool fi, .bool fn, .bool fk, .bool fv, .bool fe, .bool ft]] w fun r w' => ∃ S' zs, r = .returned (.slice S'.p zs.length S'.c) ∧
      Hid (zs = xs ++ ((if fe = true then m.field .e else []) ++ (if ft = true then m.field .t else []))) ∧ Own rowU8 w' w0.heap.size S' zs ∧ Below w0.heap.size w0 w' := by
  have hSb : S.b < w.heap.size := by
    have h1 := hown.cap
    rcases hown.row with hc | ⟨_, cur, T, fr, hb, _⟩
    · omega
    · exact (Array.getElem?_eq_some_iff.1 hb).1
  have hA := (Below.refl w.heap.size w).alloc (Nat.le_refl _) (.cells (m.arr U T) 29)
  have hB := hA.alloc hA.size (.cells #[.bool fr, .bool fh, .bool fg, .bool fi, .bool fn, .bool fk, .bool fv, .bool fe, .bool ft] 50)
  have va := (Var.made w (m.arr U T) 29 (n := w.heap.size) rfl).alloc (.cells #[.bool fr, .bool fh, .bool fg, .bool fi, .bool fn, .bool fk, .bool fv, .bool fe, .bool ft] 50)
  have vf := Var.made (w.alloc (.cells (m.arr U T) 29)) #[.bool fr, .bool fh, .bool fg, .bool fi, .bool fn, .bool fk, .bool fv, .bool fe, .bool ft] 50 (n := w.heap.size + 1) (by simp)
  have hP : PL w0 _ m U T #[.bool fr, .bool fh, .bool fg, .bool fi, .bool fn, .bool fk, .bool fv, .bool fe, .bool ft] w.heap.size (w.heap.size + 1) S xs := ⟨hb.trans (hB.mono hb.size), va, vf, hown.below hB (Nat.le_refl _), ⟨by omega, by omega⟩, hx⟩
  clear va vf hA hB hown hb
  have f7 := hP.vf.cell 7
  obtain ⟨X, hX⟩ : ∃ x, (if fe = true then m.field .e else []) = x := ⟨_, rfl⟩
  obtain ⟨Y, hY⟩ : ∃ x, (if ft = true then m.field .t else []) = x := ⟨_, rfl⟩
  rw [hX, hY]
  have HX := Lib.hid hX
  have HY := Lib.hid hY
  clear hX hY
  go_enter Try.func40, Try.ntmps40
  go_upto_if 12 with fail
  generalize (w.alloc (.cells (m.arr U T) 29)).alloc (.cells #[.bool fr, .bool fh, .bool fg, .bool fi, .bool fn, .bool fk, .bool fv, .bool fe, .bool ft] 50) = w1 at *
  generalize w.heap.size = b4 at *
  go_cut [0] (fun s0 wx => ∃ (S1 : Sl) (z1 : List UInt8), s0 = .slice S1.p z1.length S1.c ∧ PL w0 wx m U T #[.bool fr, .bool fh, .bool fg, .bool fi, .bool fn, .bool fk, .bool fv, .bool fe, .bool ft] b4 (b4 + 1) S1 z1 ∧ Hid (z1 = xs ++ X) ∧ z1.length ≤ 2000000)
  case first =>
    cases fe
    · go_wp2_with fail
      all_goals (go_meet; exact ⟨S, xs, rfl, hP, by unfold Hid; rw [← HX.out]; simp, by omega⟩)
    · have a9 : _ = some (Value.slice U.p m.ents.length U.c) := hP.va.cell 9
      have hu8 := u8wrap m.ents.length (by omega)
      go_wp2_with (at_builtin; refine wl_append' rfl (.tmp 13) (.tmp 18) 22 22 rfl rfl (hP.own.alloc _) rfl (src_block (ys := [UInt8.ofNat m.ents.length]) (heap_alloc_new _ _) ?ca1) Try.underlying22 (.inl Try.underlying22) A_u8p rfl ?ca2 ?ca3 ?ca4 ?_)
      case ca1 => simp only [flat, rowU8, hu8]; simp
      case ca2 => (try simp); omega
      case ca3 => (try simp); omega
      case ca4 => have := hP.bel.size; simp; omega
      intro T1 w2 q1 HQ1 hown1 hext1
      have hP1 := hP.ext ((Ext.alloc _ _ _).trans hext1) hown1 (by rw [HQ1.out]; simp)
      have c9 : _ = some (Value.slice U.p m.ents.length U.c) := hP1.va.cell 9
      have hix0 := (h.below (hP1.bel.mono (Nat.le_refl _))).ents
      go_wp2
      go_loopw [0, 23] (fun v i wr => ∃ (k : Nat) (T2 : Sl) (zs : List UInt8), k ≤ m.ents.length ∧ i = .int .i64 k ∧ v = .slice T2.p zs.length T2.c ∧ Hid (zs = xs ++ ([UInt8.ofNat m.ents.length] ++ entsB (m.ents.take k))) ∧ zs.length ≤ 1000001 + k * 65615 ∧ PL w0 wr m U T #[.bool fr, .bool fh, .bool fg, .bool fi, .bool fn, .bool fk, .bool fv, .bool true, .bool ft] b4 (b4 + 1) T2 zs) (fun _ i _ => m.ents.length - (intOf i).toNat)
      case atStart => exact ⟨0, T1, q1, by omega, rfl, rfl, by unfold Hid; rw [HQ1.out]; simp [entsB], by rw [HQ1.out]; simp; omega, hP1⟩
      case round =>
        obtain ⟨k, T2, zs, hk, rfl, rfl, HZ, hzl, hP2⟩ := hrel
        have hE := (h.below hP2.bel).ents
        by_cases hlt : k < m.ents.length
        · obtain ⟨x, hx⟩ := get_of_lt hlt
          have hxr := hr x (List.mem_of_getElem? hx)
          have hxo := ok.ents x (List.mem_of_getElem? hx)
          have hxt : x.tag.size ≤ 1000 := by have := (right_parts hxr).2.2.2.2.2.2; omega
          have hxl := ent_len x hxr
          have hix := hE.ix Try.underlying26 A_six rfl hlt
          obtain ⟨hc0, hc1, hc2, hc3, hc4, hc5⟩ := hE.entry hx
          have HT : Hid (entsB (m.ents.take (k + 1)) = entsB (m.ents.take k) ++ putText x.bytes) := by unfold Hid; rw [take_get hx, entsB_snoc]
          have mk : decide ((k : Int) < (m.ents.length : Int)) = true := by simp; omega
          have hP3 := hP2.below ((Below.refl wr.heap.size wr).alloc (Nat.le_refl _) (.cells x.arr 76))
          clear hE hx hxr
          go_wp2_with (first
            | (go_at_call 64; (with_reducible refine (entBytes x hxo hxt _).mono ?_); rintro r w4 ⟨S4, z4, rfl, HZ4, hown4, hB4⟩; have hP4 := hP3.below hB4; have hcv4 := hown4.rd.toStr (P := Try.prog) (src := 22) (dst := 9) Try.underlying22 A_u8und Try.underlying9; have hbz : (bs z4).size ≤ 9223372036854775807 := (by rw [HZ4.out]; show x.bytes.length ≤ _; omega); have hB5 := hP4.bel.size)
            | (go_at_call 39; (with_reducible refine (packText w0.heap.size T2 zs (bs z4) _ hB5 hP4.own (by omega) hbz).mono ?_); rintro r w5 ⟨T5, z5, rfl, HZ5, hown5, hext5⟩; have hz5 : z5.length ≤ zs.length + 65543 := (by rw [HZ5.out, List.length_append]; have := putText_length (bs z4).data.toList; omega); have hz6 : 0 < z5.length := (by rw [HZ5.out, List.length_append]; have := hP4.pos; omega); have hP5 := hP4.ext hext5 hown5 hz6; have HZ6 : Hid (z5 = xs ++ ([UInt8.ofNat m.ents.length] ++ entsB (m.ents.take (k + 1)))) := (by unfold Hid; rw [HZ5.out, HT.out, HZ.out, HZ4.out]; simp [bs])))
          go_roundw
          case rel => exact ⟨k + 1, T5, z5, by omega, by go_num, rfl, HZ6, by omega, hP5⟩
          case measure => simp [intOf]; omega
        · obtain rfl : k = m.ents.length := by omega
          have mk : decide ((m.ents.length : Int) < (m.ents.length : Int)) = false := by simp
          have HZ6 : Hid (zs = xs ++ X) := by unfold Hid; rw [← HX.out, HZ.out, List.take_length]; simp [Msg.field]
          clear hE
          go_wp2_with fail
          all_goals (go_meet; exact ⟨T2, zs, rfl, hP2, HZ6, by omega⟩)
  clear hP f7
  obtain ⟨S1, z1, rfl, hP, HZ, hzl⟩ := hcut
  have f8 := hP.vf.cell 8
  go_upto_if 34 with fail
  cases ft
  · go_wp2
    go_ret
    exact ⟨S1, z1, rfl, by unfold Hid; rw [HZ.out, ← HY.out]; simp, hP.own, hP.bel⟩
  have a9 : _ = some (Value.slice T.p m.items.length T.c) := hP.va.cell 10
  have hu8 := u8wrap m.items.length (by omega)
  go_wp2_with (at_builtin; refine wl_append' rfl (.tmp 35) (.tmp 40) 22 22 rfl rfl (hP.own.alloc _) rfl (src_block (ys := [UInt8.ofNat m.items.length]) (heap_alloc_new _ _) ?ca1) Try.underlying22 (.inl Try.underlying22) A_u8p rfl ?ca2 ?ca3 ?ca4 ?_)
  case ca1 => simp only [flat, rowU8, hu8]; simp
  case ca2 => (try simp); omega
  case ca3 => (try simp); omega
  case ca4 => have := hP.bel.size; simp; omega
  intro T1 w2 q1 HQ1 hown1 hext1
  have hP1 := hP.ext ((Ext.alloc _ _ _).trans hext1) hown1 (by rw [HQ1.out]; simp)
  have c9 : _ = some (Value.slice T.p m.items.length T.c) := hP1.va.cell 10
  go_wp2
  go_loopw [0, 45] (fun v i wr => ∃ (k : Nat) (T2 : Sl) (zs : List UInt8), k ≤ m.items.length ∧ i = .int .i64 k ∧ v = .slice T2.p zs.length T2.c ∧ Hid (zs = z1 ++ ([UInt8.ofNat m.items.length] ++ itemsB (m.items.take k))) ∧ zs.length ≤ 2000001 + k * 131095 ∧ PL w0 wr m U T #[.bool fr, .bool fh, .bool fg, .bool fi, .bool fn, .bool fk, .bool fv, .bool fe, .bool true] b4 (b4 + 1) T2 zs) (fun _ i _ => m.items.length - (intOf i).toNat)
  case atStart => exact ⟨0, T1, q1, by omega, rfl, rfl, by unfold Hid; rw [HQ1.out]; simp [itemsB], by rw [HQ1.out]; simp; omega, hP1⟩
  case round =>
    obtain ⟨k, T2, zs, hk, rfl, rfl, HZ2, hzl2, hP2⟩ := hrel
    have hE := (h.below hP2.bel).items
    by_cases hlt : k < m.items.length
    · obtain ⟨x, hx⟩ := get_of_lt hlt
      have hxo := ok.items x (List.mem_of_getElem? hx)
      have hxk := hxo.key
      have hxv := hxo.val
      have hcv := conv_u64 (P := Try.prog) (T := 3) (U := 25) Try.underlying3 Try.underlying25 x.ver
      have hix := hE.ix Try.underlying27 A_item4 rfl hlt
      obtain ⟨hc0, hc1, hc2, hc3⟩ := hE.item hx
      have HT : Hid (itemsB (m.items.take (k + 1)) = itemsB (m.items.take k) ++ (((putText x.key.data.toList ++ putText x.val.data.toList) ++ putNum (u64of x.ver) 4) ++ bitF x.gone)) := by unfold Hid; rw [take_get hx, itemsB_snoc]
      have mk : decide ((k : Int) < (m.items.length : Int)) = true := by simp; omega
      have hP3 : PL w0 (wr.alloc (.cells x.arr 41)).drew m U T #[.bool fr, .bool fh, .bool fg, .bool fi, .bool fn, .bool fk, .bool fv, .bool fe, .bool true] b4 (b4 + 1) T2 zs := (hP2.below ((Below.refl wr.heap.size wr).alloc (Nat.le_refl _) (.cells x.arr 41))).below (Below.quiet ⟨1, rfl⟩)
      have vi := (Var.made wr x.arr 41 (n := wr.heap.size) rfl).drew
      have hTb := hP2.sb
      clear hE hx hxo
      go_wp2_with fail
      refine wp_region_schR (Keep (fun k => k = wr.heap.size)) (Keep.refl (fun k => k = wr.heap.size)) (fun _ _ _ h k => h.trans k) [([0], true), ([1], true), ([2], true), ([4], true), ([5], true), ([7], true), ([8], true), ([9], true), ([3], false), ([6], false), ([10], false), ([11], true)] (by kernel_rfl) (by kernel_rfl) (fun _ _ d _ _ h => by cases d <;> exact h) ?_
      generalize (wr.alloc (.cells x.arr 41)).drew = v0 at *
      generalize wr.heap.size = bi at *
      have hK0 : Below w0.heap.size w0 v0 := hP3.bel
      have hBs0 := hP3.bel.size
      have q0 : ∀ w', Keep (fun k => k = bi) v0 w' → w'.cell? ⟨bi, 0, none⟩ = some (.string x.key) := fun w' k => (vi.keep k rfl).cell 0
      have q1 : ∀ w', Keep (fun k => k = bi) v0 w' → w'.cell? ⟨bi, 1, none⟩ = some (.string x.val) := fun w' k => (vi.keep k rfl).cell 1
      have q2 : ∀ w', Keep (fun k => k = bi) v0 w' → w'.cell? ⟨bi, 2, none⟩ = some (.int .i64 x.ver) := fun w' k => (vi.keep k rfl).cell 2
      have hbi := vi.lt
      repeat (first
      | (refine schR_pure (v := ?_) rfl (by first | exact wanted_none rfl | exact wanted_some rfl rfl rfl rfl) ?_ ?_; rotate_left 1; (focus (intro w' hw'; go_simp; (try with_reducible rfl); done)); (try simp only [Act.put, List.setIfInBounds_toArray, List.set_cons_zero, List.set_cons_succ]))
      | (refine schR_skip rfl (by first | exact wanted_not rfl rfl rfl rfl | exact wanted_undef rfl rfl rfl rfl) ?_; (try simp only [Act.put, List.setIfInBounds_toArray, List.set_cons_zero, List.set_cons_succ])))
      refine schR_one ?_
      refine grR_call rfl (by first | exact wanted_none rfl | exact wanted_some rfl rfl rfl rfl) (fun K hK => ?_)
      go_simp
      go_at_call 39
      (with_reducible refine (packText w0.heap.size T2 zs x.key _ hBs0 hP3.own (by omega) hxk).mono ?_)
      rintro r v1 ⟨T3, z3, rfl, HZ3, hown3, hext3⟩
      have hz3 : z3.length ≤ zs.length + 65543 := by rw [HZ3.out, List.length_append]; have := putText_length x.key.data.toList; omega
      have hP4 := hP3.ext hext3 hown3 (by rw [HZ3.out, List.length_append]; have := hP3.pos; omega)
      have k3 : Keep (fun k => k = bi) v0 v1 := Keep.grown hext3.grown (by rintro k rfl e; have := Option.some.inj e; omega)
      have vi3 := vi.keep k3 rfl
      have hT3 : T3.b ≠ bi := by rcases hext3.at_ with e | e <;> omega
      have hbi3 := vi3.lt
      have hBs1 := hP4.bel.size
      refine hK _ _ k3 ?_
      clear hK K
      (try simp only [Act.put, List.setIfInBounds_toArray, List.set_cons_zero, List.set_cons_succ])
      refine schR_one ?_
      refine grR_call rfl (by first | exact wanted_none rfl | exact wanted_some rfl rfl rfl rfl) (fun K hK => ?_)
      go_simp
      go_at_call 39
      (with_reducible refine (packText w0.heap.size T3 z3 x.val _ hBs1 hP4.own (by omega) hxv).mono ?_)
      rintro r v2 ⟨T4, z4, rfl, HZ4, hown4, hext4⟩
      have hz4 : z4.length ≤ z3.length + 65543 := by rw [HZ4.out, List.length_append]; have := putText_length x.val.data.toList; omega
      have hP5 := hP4.ext hext4 hown4 (by rw [HZ4.out, List.length_append]; have := hP4.pos; omega)
      have k4 : Keep (fun k => k = bi) v1 v2 := Keep.grown hext4.grown (by rintro k rfl e; have := Option.some.inj e; omega)
      have vi4 := vi3.keep k4 rfl
      have hT4 : T4.b ≠ bi := by rcases hext4.at_ with e | e <;> omega
      have hbi4 := vi4.lt
      have hBs2 := hP5.bel.size
      refine hK _ _ k4 ?_
      clear hK K
      (try simp only [Act.put, List.setIfInBounds_toArray, List.set_cons_zero, List.set_cons_succ])
      refine schR_one ?_
      refine grR_call rfl (by first | exact wanted_none rfl | exact wanted_some rfl rfl rfl rfl) (fun K hK => ?_)
      go_simp
      go_at_call 37
      (with_reducible refine (packNum w0.heap.size T4 z4 (u64of x.ver) 4 (u64of_ok _) _ hBs2 hP5.own (by omega)).mono ?_)
      rintro r v3 ⟨T5, z5, rfl, HZ5, hown5, hext5⟩
      have hz5 : z5.length ≤ z4.length + 8 := by rw [HZ5.out, List.length_append]; have := putNum_length (u64of x.ver) 4; omega
      have hP6 := hP5.ext hext5 hown5 (by rw [HZ5.out, List.length_append]; have := hP5.pos; omega)
      have k5 : Keep (fun k => k = bi) v2 v3 := Keep.grown hext5.grown (by rintro k rfl e; have := Option.some.inj e; omega)
      have vi5 := vi4.keep k5 rfl
      have hT5 : T5.b ≠ bi := by rcases hext5.at_ with e | e <;> omega
      have hBs3 := hP6.bel.size
      refine hK _ _ k5 ?_
      clear hK K
      (try simp only [Act.put, List.setIfInBounds_toArray, List.set_cons_zero, List.set_cons_succ])
      repeat (first
      | (refine schR_pure (v := ?_) rfl (by first | exact wanted_none rfl | exact wanted_some rfl rfl rfl rfl) ?_ ?_; rotate_left 1; (focus (intro w' hw'; go_simp; (try with_reducible rfl); done)); (try simp only [Act.put, List.setIfInBounds_toArray, List.set_cons_zero, List.set_cons_succ]))
      | (refine schR_skip rfl (by first | exact wanted_not rfl rfl rfl rfl | exact wanted_undef rfl rfl rfl rfl) ?_; (try simp only [Act.put, List.setIfInBounds_toArray, List.set_cons_zero, List.set_cons_succ])))
      refine schR_nil ?_
      have g3 := vi5.cell 3
      go_wp2_with (go_at_call 38; (with_reducible refine (msgBit w0.heap.size T5 z5 x.gone _ hBs3 hP6.own (by omega)).mono ?_); rintro r v4 ⟨T6, z6, rfl, HZ6, hown6, hext6⟩)
      have hz6 : z6.length = z5.length + 1 := by rw [HZ6.out, List.length_append, bitF_length]
      have hP7 := hP6.ext hext6 hown6 (by omega)
      go_roundw
      case rel => exact ⟨k + 1, T6, z6, by omega, by go_num, rfl, by unfold Hid; rw [HZ6.out, HZ5.out, HZ4.out, HZ3.out, HZ2.out, HT.out]; simp, by omega, hP7⟩
      case measure => simp [intOf]; omega
    · obtain rfl : k = m.items.length := by omega
      have mk : decide ((m.items.length : Int) < (m.items.length : Int)) = false := by simp
      have HZ6 : Hid (zs = xs ++ (X ++ Y)) := by unfold Hid; rw [← HY.out, HZ2.out, HZ.out, List.take_length]; simp [Msg.field]
      clear hE
      go_wp2
      go_ret
      exact ⟨T2, zs, rfl, HZ6, hP2.own, hP2.bel⟩
end Go.Proofs.Ytjehefhckiimkaa
end
section
set_option linter.unusedSimpArgs false
set_option linter.unusedVariables false

namespace Go.Proofs.Ytjehefhckiimkaa
open Go.RowKit

theorem filter_flat {α β : Type} (f : α → Bool) (g : α → List β) : ∀ l : List α, (l.filter f).flatMap g = l.flatMap fun c => if f c = true then g c else []
  | [] => rfl
  | a :: l => by
    rw [List.filter_cons, List.flatMap_cons, ← filter_flat f g l]
    by_cases h : f a = true
    · rw [if_pos h, if_pos h, List.flatMap_cons]
    · rw [if_neg h, if_neg h]; rfl
theorem bytes_split (m : Msg) : m.bytes = ([UInt8.ofNat m.kind.toNat] ++ putNum (u64of m.rid) 4) ++ ((if hasF m.kind .r = true then m.field .r else []) ++ ((if hasF m.kind .h = true then m.field .h else []) ++ ((if hasF m.kind .g = true then m.field .g else []) ++ ((if hasF m.kind .i = true then m.field .i else []) ++ ((if hasF m.kind .n = true then m.field .n else []) ++ ((if hasF m.kind .k = true then m.field .k else []) ++ ((if hasF m.kind .v = true then m.field .v else []) ++ ((if hasF m.kind .e = true then m.field .e else []) ++ (if hasF m.kind .t = true then m.field .t else []))))))))) := by
  unfold Msg.bytes
  rw [fds_filter, filter_flat]
  simp only [Fd.all, List.flatMap_cons, List.flatMap_nil, List.append_nil]
theorem kind_u8 {k : Int} (h : isKind k = true) : Value.int .u8 (k % 256) = .int .u8 ((UInt8.ofNat k.toNat).toNat : Int) := by
  rcases kind_cases h with rfl | rfl | rfl | rfl | rfl | rfl | rfl | rfl | rfl | rfl | rfl | rfl | rfl | rfl | rfl | rfl <;> rfl
set_option maxRecDepth 8000 in
set_option maxHeartbeats 3200000 in
theorem msgPutNo (m : Msg) (U T : Sl) (w : World) (h : MRd w m U T) (ok : MOk m) (hl : m.ents.length ≤ 1073741824) (hi : m.items.length ≤ 1073741824) (hm : m.right = false) :
    Calls Try.prog 12 #[m.val' U T] w fun r w' => r = .returned (.tuple #[.slice none 0 0, .int .i64 2]) ∧ Below w.heap.size w w' := by
  have hA := (Below.refl w.heap.size w).alloc (Nat.le_refl _) (.cells (m.arr U T) 29)
  have va := Var.made w (m.arr U T) 29 (n := w.heap.size) rfl
  have kr := msgRight m U T _ (h.below hA) ok hl hi
  rw [hm] at kr
  obtain ⟨_, a0, a1, a2, a3, a4, a5, a6, a7, a8, a9, a10⟩ := va.msg
  go_enter Try.func12, Try.ntmps12
  go_wp2_with (go_at_call 14; (with_reducible refine kr.mono ?_); rintro r w1 ⟨rfl, hB1⟩)
  go_ret2
  exact ⟨rfl, hA.trans (hB1.mono hA.size)⟩
set_option maxRecDepth 8000 in
set_option maxHeartbeats 6400000 in
theorem msgPutYes (m : Msg) (U T : Sl) (w : World) (h : MRd w m U T) (ok : MOk m) (hid : U64 m.id) (hm : m.right = true) :
    Calls Try.prog 12 #[m.val' U T] w fun r w' => ∃ S zs, r = .returned (.tuple #[.slice S.p zs.length S.c, .int .i64 0]) ∧ Hid (zs = m.bytes) ∧ Own rowU8 w' w.heap.size S zs ∧ Below w.heap.size w w' := by
  obtain ⟨pk, -, -, -, -, -, -, pe, pi, per, -, pv, pkl, -⟩ := Msg.right_parts hm
  have hA := (Below.refl w.heap.size w).alloc (Nat.le_refl _) (.cells (m.arr U T) 29)
  have va := Var.made w (m.arr U T) 29 (n := w.heap.size) rfl
  have kr := msgRight m U T _ (h.below hA) ok (by omega) (by omega)
  rw [hm] at kr
  have kh := fun v => msgHas m.kind v
  rw [pk] at kh
  unfold fldArr at kh
  have HB := Lib.hid (bytes_split m)
  obtain ⟨q, hq⟩ : ∃ q, m.bytes = q := ⟨_, rfl⟩
  rw [hq] at HB ⊢
  clear hq
  generalize hasF m.kind .r = fr at *
  generalize hasF m.kind .h = fh at *
  generalize hasF m.kind .g = fg at *
  generalize hasF m.kind .i = fi at *
  generalize hasF m.kind .n = fn at *
  generalize hasF m.kind .k = fk at *
  generalize hasF m.kind .v = fv at *
  generalize hasF m.kind .e = fe at *
  generalize hasF m.kind .t = ft at *
  have HK := Lib.hid (kind_u8 pk)
  obtain ⟨_, a0, a1, a2, a3, a4, a5, a6, a7, a8, a9, a10⟩ := va.msg
  go_enter Try.func12, Try.ntmps12
  go_upto_if 9 with (go_at_call 14; (with_reducible refine kr.mono ?_); rintro r w1 ⟨rfl, hB1⟩; have va1 := va.below hB1 va.lt; have b0 := va1.cell 0; have hb1 := hA.trans (hB1.mono hA.size))
  go_upto_region 4 with (first
    | (go_at_call 14; (with_reducible refine kr.mono ?_); rintro r w1 ⟨rfl, hB1⟩; have va1 := va.below hB1 va.lt; have b0 := va1.cell 0; have hb1 := hA.trans (hB1.mono hA.size))
    | (go_at_call 24; (with_reducible refine (kh _).mono ?_); rintro r w2 ⟨rfl, hB2⟩))
  have hb2 := hb1.trans (hB2.mono hb1.size)
  have hb3 := hb2.alloc hb2.size (.cells #[.bool fr, .bool fh, .bool fg, .bool fi, .bool fn, .bool fk, .bool fv, .bool fe, .bool ft] 50)
  have va3 := (va1.below hB2 va1.lt).alloc (.cells #[.bool fr, .bool fh, .bool fg, .bool fi, .bool fn, .bool fk, .bool fv, .bool fe, .bool ft] 50)
  have vf3 := Var.made w2 #[.bool fr, .bool fh, .bool fg, .bool fi, .bool fn, .bool fk, .bool fv, .bool fe, .bool ft] 50 (n := w2.heap.size) rfl
  have hbf : w.heap.size < w2.heap.size := (va1.below hB2 va1.lt).lt
  clear va va1 hA hb1 hb2 hB1 hB2 kr kh a0 a1 a2 a3 a4 a5 a6 a7 a8 a9 a10 b0
  generalize hbfd : w2.heap.size = bf at *
  generalize w2.alloc (.cells #[.bool fr, .bool fh, .bool fg, .bool fi, .bool fn, .bool fk, .bool fv, .bool fe, .bool ft] 50) = w3 at *
  clear hbfd
  have HBf := vf3.lt
  have c0 := va3.cell 0
  have c1 := va3.cell 1
  have f0 := vf3.cell 0
  have hcr := conv_u64 (P := Try.prog) (T := 3) (U := 25) Try.underlying3 Try.underlying25 m.rid
  have hown3 : Own rowU8 (w3.alloc (.cells #[.int .u8 (m.kind % 256)] 5)) w.heap.size ⟨some ⟨w3.heap.size, 0, none⟩, 1, w3.heap.size, 0⟩ [UInt8.ofNat m.kind.toNat] := Own.made w3 w.heap.size [UInt8.ofNat m.kind.toNat] 1 #[.int .u8 (m.kind % 256)] 5 hb3.size (by simp) (by decide) rfl (by rw [HK.out]; rfl)
  have hP3 : PL w (w3.alloc (.cells #[.int .u8 (m.kind % 256)] 5)) m U T #[.bool fr, .bool fh, .bool fg, .bool fi, .bool fn, .bool fk, .bool fv, .bool fe, .bool ft] w.heap.size bf ⟨some ⟨w3.heap.size, 0, none⟩, 1, w3.heap.size, 0⟩ [UInt8.ofNat m.kind.toNat] := ⟨hb3.alloc hb3.size _, va3.alloc _, vf3.alloc _, hown3, ⟨by have := va3.lt; simp only; omega, by simp only; omega⟩, by simp⟩
  have c1b := hP3.va.cell 1
  have kn : Calls Try.prog 37 #[.slice (some ⟨w3.heap.size, 0, none⟩) 1 1, .int .u64 (u64of m.rid), .int .i64 4] (w3.alloc (.cells #[.int .u8 (m.kind % 256)] 5)) _ := packNum w.heap.size ⟨some ⟨w3.heap.size, 0, none⟩, 1, w3.heap.size, 0⟩ [UInt8.ofNat m.kind.toNat] (u64of m.rid) 4 (u64of_ok _) _ hP3.bel.size hown3 (by simp)
  go_upto_region 5 with (go_at_call 37; (with_reducible refine kn.mono ?_); rintro r w4 ⟨S0, z0, rfl, HZ0, hown4, hext4⟩)
  have hP := hP3.ext hext4 hown4 (by rw [HZ0.out]; simp)
  have hl0 : z0.length ≤ 9 := by rw [HZ0.out, List.length_append]; have := putNum_length (u64of m.rid) 4; simp; omega
  clear kn c1b hP3 hown3 hown4 hext4 va3 vf3 hb3 c0 c1 f0 hcr HK
  have hky : m.key.size ≤ 9223372036854775807 := ok.key
  have hvl : m.val.size ≤ 9223372036854775807 := by omega
  obtain ⟨Xr, hX⟩ : ∃ x, (if fr = true then m.field .r else []) = x := ⟨_, rfl⟩
  rw [hX] at HB
  have HXr := Lib.hid hX
  clear hX
  obtain ⟨Xh, hX⟩ : ∃ x, (if fh = true then m.field .h else []) = x := ⟨_, rfl⟩
  rw [hX] at HB
  have HXh := Lib.hid hX
  clear hX
  obtain ⟨Xg, hX⟩ : ∃ x, (if fg = true then m.field .g else []) = x := ⟨_, rfl⟩
  rw [hX] at HB
  have HXg := Lib.hid hX
  clear hX
  obtain ⟨Xi, hX⟩ : ∃ x, (if fi = true then m.field .i else []) = x := ⟨_, rfl⟩
  rw [hX] at HB
  have HXi := Lib.hid hX
  clear hX
  obtain ⟨Xn, hX⟩ : ∃ x, (if fn = true then m.field .n else []) = x := ⟨_, rfl⟩
  rw [hX] at HB
  have HXn := Lib.hid hX
  clear hX
  obtain ⟨Xk, hX⟩ : ∃ x, (if fk = true then m.field .k else []) = x := ⟨_, rfl⟩
  rw [hX] at HB
  have HXk := Lib.hid hX
  clear hX
  obtain ⟨Xv, hX⟩ : ∃ x, (if fv = true then m.field .v else []) = x := ⟨_, rfl⟩
  rw [hX] at HB
  have HXv := Lib.hid hX
  clear hX
  have fl0 := hP.vf.cell 0
  go_upto_if 25 with fail
  go_cut [6] (fun s6 wx => ∃ (Sx : Sl) (zx : List UInt8), s6 = .slice Sx.p zx.length Sx.c ∧ PL w wx m U T #[.bool fr, .bool fh, .bool fg, .bool fi, .bool fn, .bool fk, .bool fv, .bool fe, .bool ft] w.heap.size bf Sx zx ∧ Hid (zx = z0 ++ Xr) ∧ zx.length ≤ z0.length + 65543)
  case first =>
    have cm := hP.va.cell 3
    have hBs := hP.bel.size
    have hcu1 := conv_u64 (P := Try.prog) (T := 3) (U := 25) Try.underlying3 Try.underlying25 m.ver
    have hcu2 := conv_u64 (P := Try.prog) (T := 24) (U := 25) Try.underlying24 Try.underlying25 m.err
    cases fr
    · have HX0 : Hid (Xr = []) := by unfold Hid; rw [← HXr.out]; simp
      go_wp2_with fail
      all_goals (go_meet; exact ⟨S0, z0, rfl, hP, by unfold Hid; rw [HX0.out]; simp, by omega⟩)
    · have HX0 : Hid (Xr = m.field .r) := by unfold Hid; rw [← HXr.out]; simp
      go_wp2_with (go_at_call 37; (with_reducible refine (packNum w.heap.size S0 z0 (u64of m.err) 2 (u64of_ok _) _ hBs hP.own (by omega)).mono ?_); rintro r w5 ⟨Tn, zn, rfl, HZn, hownn, hextn⟩; have hln := putNum_length (u64of m.err) 2)
      have HZm : Hid (zn = z0 ++ Xr) := by unfold Hid; rw [HZn.out, HX0.out]; rfl
      have hzn : zn.length ≤ z0.length + 65543 := by rw [HZn.out, List.length_append]; omega
      have hPn := hP.ext hextn hownn (by rw [HZn.out, List.length_append]; have := hP.pos; omega)
      all_goals (go_meet; exact ⟨Tn, zn, rfl, hPn, HZm, hzn⟩)
  clear fl0 hP
  obtain ⟨S1, z1, rfl, hP, HZ1, hl1⟩ := hcut
  have fl1 := hP.vf.cell 1
  go_upto_if 32 with fail
  go_cut [6] (fun s6 wx => ∃ (Sx : Sl) (zx : List UInt8), s6 = .slice Sx.p zx.length Sx.c ∧ PL w wx m U T #[.bool fr, .bool fh, .bool fg, .bool fi, .bool fn, .bool fk, .bool fv, .bool fe, .bool ft] w.heap.size bf Sx zx ∧ Hid (zx = z1 ++ Xh) ∧ zx.length ≤ z1.length + 65543)
  case first =>
    have cm := hP.va.cell 5
    have hBs := hP.bel.size
    have hcu1 := conv_u64 (P := Try.prog) (T := 3) (U := 25) Try.underlying3 Try.underlying25 m.ver
    have hcu2 := conv_u64 (P := Try.prog) (T := 24) (U := 25) Try.underlying24 Try.underlying25 m.err
    cases fh
    · have HX0 : Hid (Xh = []) := by unfold Hid; rw [← HXh.out]; simp
      go_wp2_with fail
      all_goals (go_meet; exact ⟨S1, z1, rfl, hP, by unfold Hid; rw [HX0.out]; simp, by omega⟩)
    · have HX0 : Hid (Xh = m.field .h) := by unfold Hid; rw [← HXh.out]; simp
      go_wp2_with (go_at_call 38; (with_reducible refine (msgBit w.heap.size S1 z1 m.has _ hBs hP.own (by omega)).mono ?_); rintro r w5 ⟨Tn, zn, rfl, HZn, hownn, hextn⟩; have hln := bitF_length m.has)
      have HZm : Hid (zn = z1 ++ Xh) := by unfold Hid; rw [HZn.out, HX0.out]; rfl
      have hzn : zn.length ≤ z1.length + 65543 := by rw [HZn.out, List.length_append]; omega
      have hPn := hP.ext hextn hownn (by rw [HZn.out, List.length_append]; have := hP.pos; omega)
      all_goals (go_meet; exact ⟨Tn, zn, rfl, hPn, HZm, hzn⟩)
  clear fl1 hP
  obtain ⟨S2, z2, rfl, hP, HZ2, hl2⟩ := hcut
  have fl2 := hP.vf.cell 2
  go_upto_if 38 with fail
  go_cut [6] (fun s6 wx => ∃ (Sx : Sl) (zx : List UInt8), s6 = .slice Sx.p zx.length Sx.c ∧ PL w wx m U T #[.bool fr, .bool fh, .bool fg, .bool fi, .bool fn, .bool fk, .bool fv, .bool fe, .bool ft] w.heap.size bf Sx zx ∧ Hid (zx = z2 ++ Xg) ∧ zx.length ≤ z2.length + 65543)
  case first =>
    have cm := hP.va.cell 6
    have hBs := hP.bel.size
    have hcu1 := conv_u64 (P := Try.prog) (T := 3) (U := 25) Try.underlying3 Try.underlying25 m.ver
    have hcu2 := conv_u64 (P := Try.prog) (T := 24) (U := 25) Try.underlying24 Try.underlying25 m.err
    cases fg
    · have HX0 : Hid (Xg = []) := by unfold Hid; rw [← HXg.out]; simp
      go_wp2_with fail
      all_goals (go_meet; exact ⟨S2, z2, rfl, hP, by unfold Hid; rw [HX0.out]; simp, by omega⟩)
    · have HX0 : Hid (Xg = m.field .g) := by unfold Hid; rw [← HXg.out]; simp
      go_wp2_with (go_at_call 38; (with_reducible refine (msgBit w.heap.size S2 z2 m.gone _ hBs hP.own (by omega)).mono ?_); rintro r w5 ⟨Tn, zn, rfl, HZn, hownn, hextn⟩; have hln := bitF_length m.gone)
      have HZm : Hid (zn = z2 ++ Xg) := by unfold Hid; rw [HZn.out, HX0.out]; rfl
      have hzn : zn.length ≤ z2.length + 65543 := by rw [HZn.out, List.length_append]; omega
      have hPn := hP.ext hextn hownn (by rw [HZn.out, List.length_append]; have := hP.pos; omega)
      all_goals (go_meet; exact ⟨Tn, zn, rfl, hPn, HZm, hzn⟩)
  clear fl2 hP
  obtain ⟨S3, z3, rfl, hP, HZ3, hl3⟩ := hcut
  have fl3 := hP.vf.cell 3
  go_upto_if 44 with fail
  go_cut [6] (fun s6 wx => ∃ (Sx : Sl) (zx : List UInt8), s6 = .slice Sx.p zx.length Sx.c ∧ PL w wx m U T #[.bool fr, .bool fh, .bool fg, .bool fi, .bool fn, .bool fk, .bool fv, .bool fe, .bool ft] w.heap.size bf Sx zx ∧ Hid (zx = z3 ++ Xi) ∧ zx.length ≤ z3.length + 65543)
  case first =>
    have cm := hP.va.cell 4
    have hBs := hP.bel.size
    have hcu1 := conv_u64 (P := Try.prog) (T := 3) (U := 25) Try.underlying3 Try.underlying25 m.ver
    have hcu2 := conv_u64 (P := Try.prog) (T := 24) (U := 25) Try.underlying24 Try.underlying25 m.err
    cases fi
    · have HX0 : Hid (Xi = []) := by unfold Hid; rw [← HXi.out]; simp
      go_wp2_with fail
      all_goals (go_meet; exact ⟨S3, z3, rfl, hP, by unfold Hid; rw [HX0.out]; simp, by omega⟩)
    · have HX0 : Hid (Xi = m.field .i) := by unfold Hid; rw [← HXi.out]; simp
      go_wp2_with (go_at_call 37; (with_reducible refine (packNum w.heap.size S3 z3 m.id 8 hid _ hBs hP.own (by omega)).mono ?_); rintro r w5 ⟨Tn, zn, rfl, HZn, hownn, hextn⟩; have hln := putNum_length m.id 8)
      have HZm : Hid (zn = z3 ++ Xi) := by unfold Hid; rw [HZn.out, HX0.out]; rfl
      have hzn : zn.length ≤ z3.length + 65543 := by rw [HZn.out, List.length_append]; omega
      have hPn := hP.ext hextn hownn (by rw [HZn.out, List.length_append]; have := hP.pos; omega)
      all_goals (go_meet; exact ⟨Tn, zn, rfl, hPn, HZm, hzn⟩)
  clear fl3 hP
  obtain ⟨S4, z4, rfl, hP, HZ4, hl4⟩ := hcut
  have fl4 := hP.vf.cell 4
  go_upto_if 50 with fail
  go_cut [6] (fun s6 wx => ∃ (Sx : Sl) (zx : List UInt8), s6 = .slice Sx.p zx.length Sx.c ∧ PL w wx m U T #[.bool fr, .bool fh, .bool fg, .bool fi, .bool fn, .bool fk, .bool fv, .bool fe, .bool ft] w.heap.size bf Sx zx ∧ Hid (zx = z4 ++ Xn) ∧ zx.length ≤ z4.length + 65543)
  case first =>
    have cm := hP.va.cell 2
    have hBs := hP.bel.size
    have hcu1 := conv_u64 (P := Try.prog) (T := 3) (U := 25) Try.underlying3 Try.underlying25 m.ver
    have hcu2 := conv_u64 (P := Try.prog) (T := 24) (U := 25) Try.underlying24 Try.underlying25 m.err
    cases fn
    · have HX0 : Hid (Xn = []) := by unfold Hid; rw [← HXn.out]; simp
      go_wp2_with fail
      all_goals (go_meet; exact ⟨S4, z4, rfl, hP, by unfold Hid; rw [HX0.out]; simp, by omega⟩)
    · have HX0 : Hid (Xn = m.field .n) := by unfold Hid; rw [← HXn.out]; simp
      go_wp2_with (go_at_call 37; (with_reducible refine (packNum w.heap.size S4 z4 (u64of m.ver) 4 (u64of_ok _) _ hBs hP.own (by omega)).mono ?_); rintro r w5 ⟨Tn, zn, rfl, HZn, hownn, hextn⟩; have hln := putNum_length (u64of m.ver) 4)
      have HZm : Hid (zn = z4 ++ Xn) := by unfold Hid; rw [HZn.out, HX0.out]; rfl
      have hzn : zn.length ≤ z4.length + 65543 := by rw [HZn.out, List.length_append]; omega
      have hPn := hP.ext hextn hownn (by rw [HZn.out, List.length_append]; have := hP.pos; omega)
      all_goals (go_meet; exact ⟨Tn, zn, rfl, hPn, HZm, hzn⟩)
  clear fl4 hP
  obtain ⟨S5, z5, rfl, hP, HZ5, hl5⟩ := hcut
  have fl5 := hP.vf.cell 5
  go_upto_if 57 with fail
  go_cut [6] (fun s6 wx => ∃ (Sx : Sl) (zx : List UInt8), s6 = .slice Sx.p zx.length Sx.c ∧ PL w wx m U T #[.bool fr, .bool fh, .bool fg, .bool fi, .bool fn, .bool fk, .bool fv, .bool fe, .bool ft] w.heap.size bf Sx zx ∧ Hid (zx = z5 ++ Xk) ∧ zx.length ≤ z5.length + 65543)
  case first =>
    have cm := hP.va.cell 7
    have hBs := hP.bel.size
    have hcu1 := conv_u64 (P := Try.prog) (T := 3) (U := 25) Try.underlying3 Try.underlying25 m.ver
    have hcu2 := conv_u64 (P := Try.prog) (T := 24) (U := 25) Try.underlying24 Try.underlying25 m.err
    cases fk
    · have HX0 : Hid (Xk = []) := by unfold Hid; rw [← HXk.out]; simp
      go_wp2_with fail
      all_goals (go_meet; exact ⟨S5, z5, rfl, hP, by unfold Hid; rw [HX0.out]; simp, by omega⟩)
    · have HX0 : Hid (Xk = m.field .k) := by unfold Hid; rw [← HXk.out]; simp
      go_wp2_with (go_at_call 39; (with_reducible refine (packText w.heap.size S5 z5 m.key _ hBs hP.own (by omega) hky).mono ?_); rintro r w5 ⟨Tn, zn, rfl, HZn, hownn, hextn⟩; have hln := putText_length m.key.data.toList)
      have HZm : Hid (zn = z5 ++ Xk) := by unfold Hid; rw [HZn.out, HX0.out]; rfl
      have hzn : zn.length ≤ z5.length + 65543 := by rw [HZn.out, List.length_append]; omega
      have hPn := hP.ext hextn hownn (by rw [HZn.out, List.length_append]; have := hP.pos; omega)
      all_goals (go_meet; exact ⟨Tn, zn, rfl, hPn, HZm, hzn⟩)
  clear fl5 hP
  obtain ⟨S6, z6, rfl, hP, HZ6, hl6⟩ := hcut
  have fl6 := hP.vf.cell 6
  go_upto_if 63 with fail
  go_cut [6] (fun s6 wx => ∃ (Sx : Sl) (zx : List UInt8), s6 = .slice Sx.p zx.length Sx.c ∧ PL w wx m U T #[.bool fr, .bool fh, .bool fg, .bool fi, .bool fn, .bool fk, .bool fv, .bool fe, .bool ft] w.heap.size bf Sx zx ∧ Hid (zx = z6 ++ Xv) ∧ zx.length ≤ z6.length + 65543)
  case first =>
    have cm := hP.va.cell 8
    have hBs := hP.bel.size
    have hcu1 := conv_u64 (P := Try.prog) (T := 3) (U := 25) Try.underlying3 Try.underlying25 m.ver
    have hcu2 := conv_u64 (P := Try.prog) (T := 24) (U := 25) Try.underlying24 Try.underlying25 m.err
    cases fv
    · have HX0 : Hid (Xv = []) := by unfold Hid; rw [← HXv.out]; simp
      go_wp2_with fail
      all_goals (go_meet; exact ⟨S6, z6, rfl, hP, by unfold Hid; rw [HX0.out]; simp, by omega⟩)
    · have HX0 : Hid (Xv = m.field .v) := by unfold Hid; rw [← HXv.out]; simp
      go_wp2_with (go_at_call 39; (with_reducible refine (packText w.heap.size S6 z6 m.val _ hBs hP.own (by omega) hvl).mono ?_); rintro r w5 ⟨Tn, zn, rfl, HZn, hownn, hextn⟩; have hln := putText_length m.val.data.toList)
      have HZm : Hid (zn = z6 ++ Xv) := by unfold Hid; rw [HZn.out, HX0.out]; rfl
      have hzn : zn.length ≤ z6.length + 65543 := by rw [HZn.out, List.length_append]; omega
      have hPn := hP.ext hextn hownn (by rw [HZn.out, List.length_append]; have := hP.pos; omega)
      all_goals (go_meet; exact ⟨Tn, zn, rfl, hPn, HZm, hzn⟩)
  clear fl6 hP
  obtain ⟨S7, z7, rfl, hP, HZ7, hl7⟩ := hcut
  have kp := msgPutLists m U T w h ok per pe pi fr fh fg fi fn fk fv fe ft wc hP.bel S7 z7 hP.own hP.pos (by omega)
  have HR : Hid (∀ zs : List UInt8, zs = z7 ++ ((if fe = true then m.field .e else []) ++ (if ft = true then m.field .t else [])) → zs = q) := by
    unfold Hid
    intro zs hz
    rw [hz, HB.out, HZ7.out, HZ6.out, HZ5.out, HZ4.out, HZ3.out, HZ2.out, HZ1.out, HZ0.out]
    simp only [List.append_assoc]
  clear HB HZ0 HZ1 HZ2 HZ3 HZ4 HZ5 HZ6 HZ7 HXr HXh HXg HXi HXn HXk HXv hl0 hl1 hl2 hl3 hl4 hl5 hl6 hl7 per pe pi ok h hid hm pk pkl pv hky hvl
  obtain ⟨_, a0, a1, a2, a3, a4, a5, a6, a7, a8, a9, a10⟩ := hP.va.msg
  have g0 := hP.vf.cell 0
  have g1 := hP.vf.cell 1
  have g2 := hP.vf.cell 2
  have g3 := hP.vf.cell 3
  have g4 := hP.vf.cell 4
  have g5 := hP.vf.cell 5
  have g6 := hP.vf.cell 6
  have g7 := hP.vf.cell 7
  have g8 := hP.vf.cell 8
  go_wp2_with (go_at_call 40; (with_reducible refine kp.mono ?_); rintro r w8 ⟨S8, z8, rfl, HZ8, hown8, hB8⟩; have HZ9 : Hid (z8 = q) := HR.out z8 HZ8.out; clear HZ8)
  go_ret2
  exact ⟨S8, z8, rfl, HZ9, hown8, hB8⟩
end Go.Proofs.Ytjehefhckiimkaa
end
section
set_option linter.unusedSimpArgs false
set_option linter.unusedVariables false

namespace Go.Proofs.Ytjehefhckiimkaa
open Go.RowKit

theorem refBitM (b : Bool) (w : World) : Calls Try.prog 70 #[.bool b] w fun r w' => r = .returned (.int .u64 (if b = true then 1 else 0)) ∧ w = w' := by
  cases b
  · go_enter Try.func70, Try.ntmps70
    go_wp2
    go_ret
    exact ⟨rfl, rfl⟩
  · go_enter Try.func70, Try.ntmps70
    go_wp2
    go_ret
    exact ⟨rfl, rfl⟩
end Go.Proofs.Ytjehefhckiimkaa
end
section
set_option linter.unusedSimpArgs false
set_option linter.unusedVariables false

namespace Go.Proofs.Ytjehefhckiimkaa
open Go.RowKit

set_option maxRecDepth 8000 in
set_option maxHeartbeats 1600000 in
theorem refFieldR (m : Msg) (U T S : Sl) (xs : List UInt8) (w : World) (h : Rd rowU8 w S xs) (hl : xs.length ≤ 1073741000) (hid : U64 m.id) :
    Calls Try.prog 49 #[.slice S.p xs.length S.c, m.val' U T, .int .u8 114] w fun r w' => ∃ S' zs, r = .returned (.slice S'.p zs.length S'.c) ∧ Hid (zs = xs ++ m.field .r) ∧ Rd rowU8 w' S' zs ∧ Below w.heap.size w w' := by
  have hA := (Below.refl w.heap.size w).alloc (Nat.le_refl _) (.cells (m.arr U T) 29)
  have va := Var.made w (m.arr U T) 29 (n := w.heap.size) rfl
  obtain ⟨_, a0, a1, a2, a3, a4, a5, a6, a7, a8, a9, a10⟩ := va.msg
  have hc1 := conv_u64 (P := Try.prog) (T := 24) (U := 25) Try.underlying24 Try.underlying25 m.err
  have hc2 := conv_u64 (P := Try.prog) (T := 3) (U := 25) Try.underlying3 Try.underlying25 m.ver
  have kn := fun v hv => refNum S xs (u64of m.err) 2 (u64of_ok _) v hv hl
  have hr := h.below hA (Nat.le_refl _)
  go_enter Try.func49, Try.ntmps49
  go_wp2_with (go_at_call 48; (with_reducible refine (kn _ hr).mono ?_); rintro r w1 ⟨S1, z1, rfl, HZ1, hno, hB1⟩)
  go_ret
  exact ⟨S1, z1, rfl, HZ1, hno.1, hA.trans (hB1.mono hA.size)⟩
set_option maxRecDepth 8000 in
set_option maxHeartbeats 1600000 in
theorem refFieldI (m : Msg) (U T S : Sl) (xs : List UInt8) (w : World) (h : Rd rowU8 w S xs) (hl : xs.length ≤ 1073741000) (hid : U64 m.id) :
    Calls Try.prog 49 #[.slice S.p xs.length S.c, m.val' U T, .int .u8 105] w fun r w' => ∃ S' zs, r = .returned (.slice S'.p zs.length S'.c) ∧ Hid (zs = xs ++ m.field .i) ∧ Rd rowU8 w' S' zs ∧ Below w.heap.size w w' := by
  have hA := (Below.refl w.heap.size w).alloc (Nat.le_refl _) (.cells (m.arr U T) 29)
  have va := Var.made w (m.arr U T) 29 (n := w.heap.size) rfl
  obtain ⟨_, a0, a1, a2, a3, a4, a5, a6, a7, a8, a9, a10⟩ := va.msg
  have hc1 := conv_u64 (P := Try.prog) (T := 24) (U := 25) Try.underlying24 Try.underlying25 m.err
  have hc2 := conv_u64 (P := Try.prog) (T := 3) (U := 25) Try.underlying3 Try.underlying25 m.ver
  have kn := fun v hv => refNum S xs (m.id) 8 (hid) v hv hl
  have hr := h.below hA (Nat.le_refl _)
  go_enter Try.func49, Try.ntmps49
  go_wp2_with (go_at_call 48; (with_reducible refine (kn _ hr).mono ?_); rintro r w1 ⟨S1, z1, rfl, HZ1, hno, hB1⟩)
  go_ret
  exact ⟨S1, z1, rfl, HZ1, hno.1, hA.trans (hB1.mono hA.size)⟩
set_option maxRecDepth 8000 in
set_option maxHeartbeats 1600000 in
theorem refFieldN (m : Msg) (U T S : Sl) (xs : List UInt8) (w : World) (h : Rd rowU8 w S xs) (hl : xs.length ≤ 1073741000) (hid : U64 m.id) :
    Calls Try.prog 49 #[.slice S.p xs.length S.c, m.val' U T, .int .u8 110] w fun r w' => ∃ S' zs, r = .returned (.slice S'.p zs.length S'.c) ∧ Hid (zs = xs ++ m.field .n) ∧ Rd rowU8 w' S' zs ∧ Below w.heap.size w w' := by
  have hA := (Below.refl w.heap.size w).alloc (Nat.le_refl _) (.cells (m.arr U T) 29)
  have va := Var.made w (m.arr U T) 29 (n := w.heap.size) rfl
  obtain ⟨_, a0, a1, a2, a3, a4, a5, a6, a7, a8, a9, a10⟩ := va.msg
  have hc1 := conv_u64 (P := Try.prog) (T := 24) (U := 25) Try.underlying24 Try.underlying25 m.err
  have hc2 := conv_u64 (P := Try.prog) (T := 3) (U := 25) Try.underlying3 Try.underlying25 m.ver
  have kn := fun v hv => refNum S xs (u64of m.ver) 4 (u64of_ok _) v hv hl
  have hr := h.below hA (Nat.le_refl _)
  go_enter Try.func49, Try.ntmps49
  go_wp2_with (go_at_call 48; (with_reducible refine (kn _ hr).mono ?_); rintro r w1 ⟨S1, z1, rfl, HZ1, hno, hB1⟩)
  go_ret
  exact ⟨S1, z1, rfl, HZ1, hno.1, hA.trans (hB1.mono hA.size)⟩
set_option maxRecDepth 8000 in
set_option maxHeartbeats 1600000 in
theorem refFieldH (m : Msg) (U T S : Sl) (xs : List UInt8) (w : World) (h : Rd rowU8 w S xs) (hl : xs.length ≤ 1073741000) :
    Calls Try.prog 49 #[.slice S.p xs.length S.c, m.val' U T, .int .u8 104] w fun r w' => ∃ S' zs, r = .returned (.slice S'.p zs.length S'.c) ∧ Hid (zs = xs ++ m.field .h) ∧ Rd rowU8 w' S' zs ∧ Below w.heap.size w w' := by
  have hA := (Below.refl w.heap.size w).alloc (Nat.le_refl _) (.cells (m.arr U T) 29)
  have va := Var.made w (m.arr U T) 29 (n := w.heap.size) rfl
  obtain ⟨_, a0, a1, a2, a3, a4, a5, a6, a7, a8, a9, a10⟩ := va.msg
  have HB : Hid (m.field .h = putNum (if (m.has) = true then 1 else 0) 1) := bitF_num (m.has)
  obtain ⟨n, hn⟩ : ∃ n : Int, (if (m.has) = true then 1 else 0) = n := ⟨_, rfl⟩
  have hu : U64 n := by rw [← hn]; cases (m.has) <;> (unfold U64; decide)
  have kb := fun v => refBitM (m.has) v
  rw [hn] at HB
  simp only [hn] at kb
  have kn := fun v hv => refNum S xs n 1 hu v hv hl
  have hr := h.below hA (Nat.le_refl _)
  clear hn
  go_enter Try.func49, Try.ntmps49
  go_wp2_with (first
    | (go_at_call 70; (with_reducible refine (kb _).mono ?_); rintro r w0 ⟨rfl, rfl⟩)
    | (go_at_call 48; (with_reducible refine (kn _ hr).mono ?_); rintro r w1 ⟨S1, z1, rfl, HZ1, hno, hB1⟩))
  go_ret
  exact ⟨S1, z1, rfl, by unfold Hid; rw [HZ1.out, HB.out], hno.1, hA.trans (hB1.mono hA.size)⟩
set_option maxRecDepth 8000 in
set_option maxHeartbeats 1600000 in
theorem refFieldG (m : Msg) (U T S : Sl) (xs : List UInt8) (w : World) (h : Rd rowU8 w S xs) (hl : xs.length ≤ 1073741000) :
    Calls Try.prog 49 #[.slice S.p xs.length S.c, m.val' U T, .int .u8 103] w fun r w' => ∃ S' zs, r = .returned (.slice S'.p zs.length S'.c) ∧ Hid (zs = xs ++ m.field .g) ∧ Rd rowU8 w' S' zs ∧ Below w.heap.size w w' := by
  have hA := (Below.refl w.heap.size w).alloc (Nat.le_refl _) (.cells (m.arr U T) 29)
  have va := Var.made w (m.arr U T) 29 (n := w.heap.size) rfl
  obtain ⟨_, a0, a1, a2, a3, a4, a5, a6, a7, a8, a9, a10⟩ := va.msg
  have HB : Hid (m.field .g = putNum (if (m.gone) = true then 1 else 0) 1) := bitF_num (m.gone)
  obtain ⟨n, hn⟩ : ∃ n : Int, (if (m.gone) = true then 1 else 0) = n := ⟨_, rfl⟩
  have hu : U64 n := by rw [← hn]; cases (m.gone) <;> (unfold U64; decide)
  have kb := fun v => refBitM (m.gone) v
  rw [hn] at HB
  simp only [hn] at kb
  have kn := fun v hv => refNum S xs n 1 hu v hv hl
  have hr := h.below hA (Nat.le_refl _)
  clear hn
  go_enter Try.func49, Try.ntmps49
  go_wp2_with (first
    | (go_at_call 70; (with_reducible refine (kb _).mono ?_); rintro r w0 ⟨rfl, rfl⟩)
    | (go_at_call 48; (with_reducible refine (kn _ hr).mono ?_); rintro r w1 ⟨S1, z1, rfl, HZ1, hno, hB1⟩))
  go_ret
  exact ⟨S1, z1, rfl, by unfold Hid; rw [HZ1.out, HB.out], hno.1, hA.trans (hB1.mono hA.size)⟩
set_option maxRecDepth 8000 in
set_option maxHeartbeats 1600000 in
theorem refFieldK (m : Msg) (U T S : Sl) (xs : List UInt8) (w : World) (h : Rd rowU8 w S xs) (hl : xs.length ≤ 1073741000) (hs : (m.key).size ≤ 9223372036854775807) :
    Calls Try.prog 49 #[.slice S.p xs.length S.c, m.val' U T, .int .u8 107] w fun r w' => ∃ S' zs, r = .returned (.slice S'.p zs.length S'.c) ∧ Hid (zs = xs ++ m.field .k) ∧ Rd rowU8 w' S' zs ∧ Below w.heap.size w w' := by
  have hA := (Below.refl w.heap.size w).alloc (Nat.le_refl _) (.cells (m.arr U T) 29)
  have va := Var.made w (m.arr U T) 29 (n := w.heap.size) rfl
  obtain ⟨_, a0, a1, a2, a3, a4, a5, a6, a7, a8, a9, a10⟩ := va.msg
  have kn := fun v hv => refText S xs (m.key) v hv hl hs
  have hr := h.below hA (Nat.le_refl _)
  go_enter Try.func49, Try.ntmps49
  go_wp2_with (go_at_call 71; (with_reducible refine (kn _ hr).mono ?_); rintro r w1 ⟨S1, z1, rfl, HZ1, hno, hB1⟩)
  go_ret
  exact ⟨S1, z1, rfl, HZ1, hno.rd, hA.trans (hB1.mono hA.size)⟩
set_option maxRecDepth 8000 in
set_option maxHeartbeats 1600000 in
theorem refFieldV (m : Msg) (U T S : Sl) (xs : List UInt8) (w : World) (h : Rd rowU8 w S xs) (hl : xs.length ≤ 1073741000) (hs : (m.val).size ≤ 9223372036854775807) :
    Calls Try.prog 49 #[.slice S.p xs.length S.c, m.val' U T, .int .u8 118] w fun r w' => ∃ S' zs, r = .returned (.slice S'.p zs.length S'.c) ∧ Hid (zs = xs ++ m.field .v) ∧ Rd rowU8 w' S' zs ∧ Below w.heap.size w w' := by
  have hA := (Below.refl w.heap.size w).alloc (Nat.le_refl _) (.cells (m.arr U T) 29)
  have va := Var.made w (m.arr U T) 29 (n := w.heap.size) rfl
  obtain ⟨_, a0, a1, a2, a3, a4, a5, a6, a7, a8, a9, a10⟩ := va.msg
  have kn := fun v hv => refText S xs (m.val) v hv hl hs
  have hr := h.below hA (Nat.le_refl _)
  go_enter Try.func49, Try.ntmps49
  go_wp2_with (go_at_call 71; (with_reducible refine (kn _ hr).mono ?_); rintro r w1 ⟨S1, z1, rfl, HZ1, hno, hB1⟩)
  go_ret
  exact ⟨S1, z1, rfl, HZ1, hno.rd, hA.trans (hB1.mono hA.size)⟩
end Go.Proofs.Ytjehefhckiimkaa
end
section
set_option linter.unusedSimpArgs false
set_option linter.unusedVariables false

namespace Go.Proofs.Ytjehefhckiimkaa
open Go.RowKit

set_option maxRecDepth 8000 in
set_option maxHeartbeats 1600000 in
theorem refFieldE (m : Msg) (U T S : Sl) (xs : List UInt8) (w : World) (h : Rd rowU8 w S xs) (hM : MRd w m U T) (ok : MOk m) (hr : ∀ e ∈ m.ents, e.right = true) (he8 : m.ents.length ≤ 8) (hl : xs.length ≤ 1000000) :
    Calls Try.prog 49 #[.slice S.p xs.length S.c, m.val' U T, .int .u8 101] w fun r w' => ∃ S' zs, r = .returned (.slice S'.p zs.length S'.c) ∧ Hid (zs = xs ++ m.field .e) ∧ Rd rowU8 w' S' zs ∧ Below w.heap.size w w' := by
  have hA := (Below.refl w.heap.size w).alloc (Nat.le_refl _) (.cells (m.arr U T) 29)
  have va := Var.made w (m.arr U T) 29 (n := w.heap.size) rfl
  have a9 : _ = some (Value.slice U.p m.ents.length U.c) := va.cell 9
  have HB : Hid (putNum (m.ents.length : Int) 1 = [UInt8.ofNat m.ents.length]) := putNum_one' m.ents.length
  have hc1 := conv_u64 (P := Try.prog) (T := 3) (U := 25) Try.underlying3 Try.underlying25 (m.ents.length : Int)
  rw [u64_small (by omega) (by omega)] at hc1
  have kn := refNum S xs (m.ents.length : Int) 1 (by unfold U64; omega) _ (h.below hA (Nat.le_refl _)) (by omega)
  go_enter Try.func49, Try.ntmps49
  go_wp2_with (go_at_call 48; (with_reducible refine kn.mono ?_); rintro r w1 ⟨S1, z1, rfl, HZ1, hno, hB1⟩; have hb1 := hA.trans (hB1.mono hA.size); have va1 := va.below hB1 va.lt; have hr1 := hno.1)
  clear kn a9 hno
  go_loopw [0, 7] (fun v i wr => ∃ (k : Nat) (T2 : Sl) (zs : List UInt8), k ≤ m.ents.length ∧ i = .int .i64 k ∧ v = .slice T2.p zs.length T2.c ∧ Hid (zs = xs ++ ([UInt8.ofNat m.ents.length] ++ entsB (m.ents.take k))) ∧ zs.length ≤ 1000001 + k * 65615 ∧ Rd rowU8 wr T2 zs ∧ Below w.heap.size w wr ∧ Var wr w.heap.size (m.arr U T)) (fun _ i _ => m.ents.length - (intOf i).toNat)
  case atStart => exact ⟨0, S1, z1, by omega, rfl, rfl, by unfold Hid; rw [HZ1.out, HB.out]; simp [entsB], by rw [HZ1.out, HB.out]; simp; omega, hr1, hb1, va1⟩
  case round =>
    obtain ⟨k, T2, zs, hk, rfl, rfl, HZ, hzl, hr2, hb2, va2⟩ := hrel
    have hE := (hM.below hb2).ents
    have c9 : _ = some (Value.slice U.p m.ents.length U.c) := va2.cell 9
    by_cases hlt : k < m.ents.length
    · obtain ⟨x, hx⟩ := get_of_lt hlt
      have hxr := hr x (List.mem_of_getElem? hx)
      have hxo := ok.ents x (List.mem_of_getElem? hx)
      have hxt : x.tag.size ≤ 1000 := by have := (right_parts hxr).2.2.2.2.2.2; omega
      have hxl := ent_len x hxr
      have hix := hE.ix Try.underlying26 A_six rfl hlt
      obtain ⟨hc0, hc1, hc2, hc3, hc4, hc5⟩ := hE.entry hx
      have HT : Hid (entsB (m.ents.take (k + 1)) = entsB (m.ents.take k) ++ putText x.bytes) := by unfold Hid; rw [take_get hx, entsB_snoc]
      have mk : decide ((k : Int) < (m.ents.length : Int)) = true := by simp; omega
      clear hE hx hxr
      go_wp2_with (first
        | (go_at_call 72; (with_reducible refine (refBytes x hxo hxt _).mono ?_); rintro r w4 ⟨S4, z4, rfl, HZ4, hown4, hB4⟩; have hr4 := hr2.below hB4 (Nat.le_refl _); have va4 := va2.below hB4 va2.lt; have hb4 := hb2.trans (hB4.mono hb2.size); have hcv4 := hown4.rd.toStr (P := Try.prog) (src := 22) (dst := 9) Try.underlying22 A_u8und Try.underlying9; have hbz : (bs z4).size ≤ 9223372036854775807 := (by rw [HZ4.out]; show x.bytes.length ≤ _; omega))
        | (go_at_call 71; (with_reducible refine (refText T2 zs (bs z4) _ hr4 (by omega) hbz).mono ?_); rintro r w5 ⟨T5, z5, rfl, HZ5, hown5, hB5⟩; have hz5 : z5.length ≤ zs.length + 65543 := (by rw [HZ5.out, List.length_append]; have := putText_length (bs z4).data.toList; omega); have va5 := va4.below hB5 va4.lt; have hb5 := hb4.trans (hB5.mono hb4.size); have HZ6 : Hid (z5 = xs ++ ([UInt8.ofNat m.ents.length] ++ entsB (m.ents.take (k + 1)))) := (by unfold Hid; rw [HZ5.out, HT.out, HZ.out, HZ4.out]; simp [bs])))
      go_roundw
      case rel => exact ⟨k + 1, T5, z5, by omega, by go_num, rfl, HZ6, by omega, hown5.rd, hb5, va5⟩
      case measure => simp [intOf]; omega
    · obtain rfl : k = m.ents.length := by omega
      have mk : decide ((m.ents.length : Int) < (m.ents.length : Int)) = false := by simp
      have HZ6 : Hid (zs = xs ++ m.field .e) := by unfold Hid; rw [HZ.out, List.take_length]; simp [Msg.field]
      clear hE
      go_wp2
      go_ret
      exact ⟨T2, zs, rfl, HZ6, hr2, hb2⟩
end Go.Proofs.Ytjehefhckiimkaa
end
section
set_option linter.unusedSimpArgs false
set_option linter.unusedVariables false

namespace Go.Proofs.Ytjehefhckiimkaa
open Go.RowKit

set_option maxRecDepth 8000 in
set_option maxHeartbeats 3200000 in
theorem refFieldT (m : Msg) (U T S : Sl) (xs : List UInt8) (w : World) (h : Rd rowU8 w S xs) (hM : MRd w m U T) (ok : MOk m) (hi16 : m.items.length ≤ 16) (hl : xs.length ≤ 1000000) :
    Calls Try.prog 49 #[.slice S.p xs.length S.c, m.val' U T, .int .u8 116] w fun r w' => ∃ S' zs, r = .returned (.slice S'.p zs.length S'.c) ∧ Hid (zs = xs ++ m.field .t) ∧ Rd rowU8 w' S' zs ∧ Below w.heap.size w w' := by
  have hA := (Below.refl w.heap.size w).alloc (Nat.le_refl _) (.cells (m.arr U T) 29)
  have va := Var.made w (m.arr U T) 29 (n := w.heap.size) rfl
  have a9 : _ = some (Value.slice T.p m.items.length T.c) := va.cell 10
  have HB : Hid (putNum (m.items.length : Int) 1 = [UInt8.ofNat m.items.length]) := putNum_one' m.items.length
  have hc1 := conv_u64 (P := Try.prog) (T := 3) (U := 25) Try.underlying3 Try.underlying25 (m.items.length : Int)
  rw [u64_small (by omega) (by omega)] at hc1
  have kn := refNum S xs (m.items.length : Int) 1 (by unfold U64; omega) _ (h.below hA (Nat.le_refl _)) (by omega)
  go_enter Try.func49, Try.ntmps49
  go_wp2_with (go_at_call 48; (with_reducible refine kn.mono ?_); rintro r w1 ⟨S1, z1, rfl, HZ1, hno, hB1⟩; have hb1 := hA.trans (hB1.mono hA.size); have va1 := va.below hB1 va.lt; have hr1 := hno.1)
  clear kn a9 hno
  go_loopw [0, 8] (fun v i wr => ∃ (k : Nat) (T2 : Sl) (zs : List UInt8), k ≤ m.items.length ∧ i = .int .i64 k ∧ v = .slice T2.p zs.length T2.c ∧ Hid (zs = xs ++ ([UInt8.ofNat m.items.length] ++ itemsB (m.items.take k))) ∧ zs.length ≤ 1000001 + k * 131104 ∧ Rd rowU8 wr T2 zs ∧ Below w.heap.size w wr ∧ Var wr w.heap.size (m.arr U T)) (fun _ i _ => m.items.length - (intOf i).toNat)
  case atStart => exact ⟨0, S1, z1, by omega, rfl, rfl, by unfold Hid; rw [HZ1.out, HB.out]; simp [itemsB], by rw [HZ1.out, HB.out]; simp; omega, hr1, hb1, va1⟩
  case round =>
    obtain ⟨k, T2, zs, hk, rfl, rfl, HZ, hzl, hr2, hb2, va2⟩ := hrel
    have hE := (hM.below hb2).items
    have c9 : _ = some (Value.slice T.p m.items.length T.c) := va2.cell 10
    by_cases hlt : k < m.items.length
    · obtain ⟨x, hx⟩ := get_of_lt hlt
      have hxo := ok.items x (List.mem_of_getElem? hx)
      have hxk := hxo.key
      have hxv := hxo.val
      have hcv := conv_u64 (P := Try.prog) (T := 3) (U := 25) Try.underlying3 Try.underlying25 x.ver
      have hix := hE.ix Try.underlying27 A_item4 rfl hlt
      have HX := Lib.hid hx
      obtain ⟨e0, e1, e2, e3⟩ := hE.item hx
      have HT : Hid (itemsB (m.items.take (k + 1)) = itemsB (m.items.take k) ++ (((putText x.key.data.toList ++ putText x.val.data.toList) ++ putNum (u64of x.ver) 4) ++ bitF x.gone)) := by unfold Hid; rw [take_get hx, itemsB_snoc]
      have mk : decide ((k : Int) < (m.items.length : Int)) = true := by simp; omega
      have HG : Hid (bitF x.gone = putNum (if x.gone = true then 1 else 0) 1) := bitF_num x.gone
      obtain ⟨g, hg⟩ : ∃ n : Int, (if x.gone = true then 1 else 0) = n := ⟨_, rfl⟩
      have hu : U64 g := by rw [← hg]; cases x.gone <;> (unfold U64; decide)
      have kb := fun v => refBitM x.gone v
      rw [hg] at HG
      simp only [hg] at kb
      clear hx hg hxo
      go_wp2_with (first
        | (go_at_call 71; (with_reducible refine (refText T2 zs x.key _ hr2 (by omega) hxk).mono ?_); rintro r w3 ⟨T3, z3, rfl, HZ3, hr3, hB3⟩; have hz3 : z3.length ≤ zs.length + 65543 := (by rw [HZ3.out, List.length_append]; have := putText_length x.key.data.toList; omega); have va3 := va2.below hB3 va2.lt; have hb3 := hb2.trans (hB3.mono hb2.size); have hE3 := hE.below hB3 (Nat.le_refl _); have d9 : _ = some (Value.slice T.p m.items.length T.c) := va3.cell 10; obtain ⟨f0, f1, f2, f3⟩ := hE3.item HX.out)
        | (go_at_call 71; (with_reducible refine (refText T3 z3 x.val _ hr3.rd (by omega) hxv).mono ?_); rintro r w4 ⟨T4, z4, rfl, HZ4, hr4, hB4⟩; have hz4 : z4.length ≤ z3.length + 65543 := (by rw [HZ4.out, List.length_append]; have := putText_length x.val.data.toList; omega); have va4 := va3.below hB4 va3.lt; have hb4 := hb3.trans (hB4.mono hb3.size); have hE4 := hE3.below hB4 (Nat.le_refl _); have h9 : _ = some (Value.slice T.p m.items.length T.c) := va4.cell 10; obtain ⟨g0, g1, g2, g3⟩ := hE4.item HX.out)
        | (go_at_call 48; (with_reducible refine (refNum T4 z4 (u64of x.ver) 4 (u64of_ok _) _ hr4.rd (by omega)).mono ?_); rintro r w5 ⟨T5, z5, rfl, HZ5, hr5, hB5⟩; have hz5 : z5.length ≤ z4.length + 8 := (by rw [HZ5.out, List.length_append]; have := putNum_length (u64of x.ver) 4; omega); have va5 := va4.below hB5 va4.lt; have hb5 := hb4.trans (hB5.mono hb4.size); have hr5b := hr5.1; have hE5 := hE4.below hB5 (Nat.le_refl _); have i9 : _ = some (Value.slice T.p m.items.length T.c) := va5.cell 10; obtain ⟨i0, i1, i2, i3⟩ := hE5.item HX.out)
        | (go_at_call 70; (with_reducible refine (kb _).mono ?_); rintro r wb ⟨rfl, rfl⟩)
        | (go_at_call 48; (with_reducible refine (refNum T5 z5 g 1 hu _ hr5b (by omega)).mono ?_); rintro r w6 ⟨T6, z6, rfl, HZ6, hr6, hB6⟩; have hz6 : z6.length ≤ z5.length + 8 := (by rw [HZ6.out, List.length_append]; have := putNum_length g 1; omega); have va6 := va5.below hB6 va5.lt; have hb6 := hb5.trans (hB6.mono hb5.size)))
      have HZ7 : Hid (z6 = xs ++ ([UInt8.ofNat m.items.length] ++ itemsB (m.items.take (k + 1)))) := by
        unfold Hid
        rw [HZ6.out, ← HG.out, HZ5.out, HZ4.out, HZ3.out, HZ.out, HT.out]
        simp only [List.append_assoc]
      go_roundw
      case rel => exact ⟨k + 1, T6, z6, by omega, by go_num, rfl, HZ7, by omega, hr6.1, hb6, va6⟩
      case measure => simp [intOf]; omega
    · obtain rfl : k = m.items.length := by omega
      have mk : decide ((m.items.length : Int) < (m.items.length : Int)) = false := by simp
      have HZ6 : Hid (zs = xs ++ m.field .t) := by unfold Hid; rw [HZ.out, List.take_length]; simp [Msg.field]
      clear hE
      go_wp2
      go_ret
      exact ⟨T2, zs, rfl, HZ6, hr2, hb2⟩
end Go.Proofs.Ytjehefhckiimkaa
end
