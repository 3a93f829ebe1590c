/-
  This text proves how hellos and welcomes get their tags in the program; of keys of no more than 2^20 bytes; the table of constants holds what its text lays.
  This text proves how hellos and welcomes are made and checked in the program; of keys of no more than 2^20 bytes; the table of constants holds what its text lays.
  This text proves how hellos and welcomes are compared, and how they are made and checked in the reference; of keys of no more than 2^20 bytes, and tags of no more than 1000 bytes in entries.
  This text proves how hellos and welcomes are made and checked in the reference; of keys of no more than 2^20 bytes, and tags of no more than 1000 bytes in entries.
-/
import Derived.Handy
import Derived.IntWalk
import Derived.Test.YtdajfggehffooaaDoorRows
import Derived.Test.YtdajfggehffooaaDoorJA
import Derived.Test.YtdajfggehffooaaDoorJB
import Derived.Test.YtdajfggehffooaaDoorJC
import Derived.Test.YtdajfggehffooaaDoorJD
import Derived.Test.YtdajfggehffooaaDoorJE
import Derived.Test.YtdajfggehffooaaDoorJF
section
set_option linter.unusedSimpArgs false
set_option linter.unusedVariables false

namespace Go.Proofs.YtdajfggehffooaaDoor
open Go.RowKit

set_option maxHeartbeats 800000 in
theorem helText (B : Nat) (S : Sl) (xs : List UInt8) (e : Entry) (ok : e.Ok) (hg : e.tag.size ≤ 140737488351232) (w : World) (hB : B ≤ w.heap.size) (h : Own rowU8 w B S xs) (hl : xs.length ≤ 1000000000) :
    Calls Tryd.prog 83 #[.slice S.p xs.length S.c, e.val] w fun r w' => ∃ S' zs, r = .returned (.slice S'.p zs.length S'.c) ∧ Hid (zs = xs ++ putText e.bytes) ∧ Own rowU8 w' B S' zs ∧ Ext w w' S S' := by
  have hA := (Below.refl w.heap.size w).alloc (Nat.le_refl _) (.cells e.arr 24)
  have h0 := h.alloc (.cells e.arr 24)
  have hv0 := Var.made w e.arr 24 (n := w.heap.size) rfl
  obtain ⟨_, x0, x1, x2, x3, x4, x5⟩ := hv0.entry
  go_enter Tryd.func83, Tryd.ntmps83
  go_wp2_with (first
    | (go_at_call 118; (with_reducible refine (entBytesL e ok hg _).mono ?_); rintro r w1 ⟨S1, z1, rfl, HZ1, hown1, hb1'⟩; have hb1 := hA.trans (hb1'.mono hA.size); have h1 := h0.below hb1' (Nat.le_refl _); have cv := convF hown1.rd _ (Below.refl _ _); have hsz1 : (bs z1).size ≤ 9223372036854775807 := (by rw [bs_size]; exact hown1.len); have hs1 := hb1.size)
    | (go_at_call 82; (with_reducible refine (packText B S xs (bs z1) _ (Nat.le_trans hB hs1) h1 (by omega) hsz1).mono ?_); rintro r w2 ⟨S2, z2, rfl, HZ2, hown2, hext2⟩))
  go_ret
  exact ⟨S2, z2, rfl, by unfold Hid; rw [HZ2.out, toList_bs, HZ1.out], hown2, (Ext.of_below hb1 S).trans hext2⟩
abbrev titleHC : Array Value := #[.int .u8 99, .int .u8 97, .int .u8 114, .int .u8 99, .int .u8 97, .int .u8 110, .int .u8 101, .int .u8 116, .int .u8 32, .int .u8 104, .int .u8 101, .int .u8 108, .int .u8 108, .int .u8 111]
abbrev titleWC : Array Value := #[.int .u8 99, .int .u8 97, .int .u8 114, .int .u8 99, .int .u8 97, .int .u8 110, .int .u8 101, .int .u8 116, .int .u8 32, .int .u8 119, .int .u8 101, .int .u8 108, .int .u8 99, .int .u8 111, .int .u8 109, .int .u8 101]
theorem keep_realloc {p : Nat → Prop} (v : World) (o o' : Obj) (hp : ∀ k, p k → k < v.heap.size) : Keep p (v.alloc o) (v.alloc o') :=
  ⟨rfl, rfl, rfl, by simp, fun k hk _ => (Below.heap_alloc v o' k (hp k hk)).trans (Below.heap_alloc v o k (hp k hk)).symm⟩
theorem lit_conv (c : Array Value) (n : Nat) (hn : c.size = n) (b : Nat) (v : World) (hb : v.heap.size = b) :
    (convert 42 42 (.slice (some ⟨b, 0, none⟩) n n)).run Tryd.prog (v.alloc (.cells c 5)) = .ok (.slice (some ⟨b, 0, none⟩) n n) (v.alloc (.cells c 5 (n, n + 1))) := by
  subst hb hn
  exact Go.Lib.run_convert_bytes_const v 42 5 c c.size c.size Tryd.underlying42 Tryd.underlying5
theorem lit_own (l : List UInt8) (c : Array Value) (n : Nat) (fr : Nat × Nat) (hfr : Free fr n) (hn : l.length = n) (hc : c.toList = flat rowU8 l) (hl : n ≤ 1000) (b : Nat) (v : World) (hb : v.heap.size = b) : Own rowU8 (v.alloc (.cells c 5 fr)) b ⟨some ⟨b, 0, none⟩, n, b, 0⟩ l := by
  subst hb hn
  have hcs : c.size = l.length := by
    have : c.toList.length = l.length := by rw [hc, flat_length]; exact Nat.mul_one _
    rw [← this]; rfl
  refine ⟨Nat.le_refl _, by show l.length ≤ _; omega, Nat.le_refl _, .inr ⟨rfl, c, 5, fr, heap_alloc_new v _, by rw [hcs]; exact hfr, by rw [hcs]; show 0 + l.length * 1 ≤ _; omega, ?_⟩⟩
  rw [hc, List.drop_zero, List.take_of_length_le (by rw [flat_length]; exact Nat.le_refl _)]
theorem lit_text (l : List UInt8) (c : Array Value) (n : Nat) (fr : Nat × Nat) (hfr : Free fr n) (hn : l.length = n) (hc : c.toList = flat rowU8 l) (hl : n ≤ 1000) (b : Nat) (v : World) (hb : v.heap.size = b) (s : ByteArray) (hs : s.size ≤ 9223372036854775807) :
    Calls Tryd.prog 82 #[.slice (some ⟨b, 0, none⟩) n n, .string s] (v.alloc (.cells c 5 fr)) fun r w' => ∃ S zs, r = .returned (.slice S.p zs.length S.c) ∧ Hid (zs = l ++ putText s.data.toList) ∧ Own rowU8 w' b S zs ∧ Below b (v.alloc (.cells c 5 fr)) w' := by
  have o := lit_own l c n fr hfr hn hc hl b v hb
  subst hb hn
  exact (packText v.heap.size ⟨some ⟨v.heap.size, 0, none⟩, l.length, v.heap.size, 0⟩ l s _ (by simp) o (by omega) hs).mono fun r w' ⟨S, zs, hr, hz, ho, he⟩ => ⟨S, zs, hr, hz, ho, he.below (Nat.le_refl _) (by simp)⟩
theorem lit_num (l : List UInt8) (c : Array Value) (n : Nat) (fr : Nat × Nat) (hfr : Free fr n) (hn : l.length = n) (hc : c.toList = flat rowU8 l) (hl : n ≤ 1000) (b : Nat) (v : World) (hb : v.heap.size = b) (m k : Int) (hm : U64 m) :
    Calls Tryd.prog 81 #[.slice (some ⟨b, 0, none⟩) n n, .int .u64 m, .int .i64 k] (v.alloc (.cells c 5 fr)) fun r w' => ∃ S zs, r = .returned (.slice S.p zs.length S.c) ∧ Hid (zs = l ++ putNum m k) ∧ Own rowU8 w' b S zs ∧ Below b (v.alloc (.cells c 5 fr)) w' := by
  have o := lit_own l c n fr hfr hn hc hl b v hb
  subst hb hn
  exact (packNum v.heap.size ⟨some ⟨v.heap.size, 0, none⟩, l.length, v.heap.size, 0⟩ l m k hm _ (by simp) o (by omega)).mono fun r w' ⟨S, zs, hr, hz, ho, he⟩ => ⟨S, zs, hr, hz, ho, he.below (Nat.le_refl _) (by simp)⟩
theorem sl_apart {v v' : World} {B : Nat} {S Sk : Sl} {xs zk : List UInt8} (h : Own rowU8 v B S xs) (hx : xs ≠ []) (hk : Own rowU8 v' v.heap.size Sk zk) : Sk.b ≠ S.b := by
  have h1 := hk.lo
  have h2 := h.rd.lt hx
  omega
theorem nk_next {v v' : World} {S S' Sk : Sl} {zk : List UInt8} (h : Rd rowU8 v Sk zk) (hn : zk ≠ [] → Sk.b ≠ S.b) (he : Ext v v' S S') : zk ≠ [] → Sk.b ≠ S'.b := by
  intro hz e
  have h1 := h.lt hz
  have h2 := hn hz
  rcases he.at_ with h3 | h3 <;> omega
theorem free_end (n : Nat) : Free (n, n + 1) n := fun o ho h => by have := h.1; simp at this; omega
set_option maxRecDepth 8000 in
set_option maxHeartbeats 3200000 in
theorem helTagH (k : List UInt8) (x : Helo) (ok : x.Ok) (hg : x.entry.tag.size ≤ 140737488351232) (hl : k.length ≤ 1048576) (w : World) (hK : Kt w) :
    Calls Tryd.prog 74 #[.string (bs k), x.val] w fun r w' => r = .returned (.string (bs (tagH k x.to x.nonce x.entry))) ∧ Below w.heap.size w w' := by
  have hA := (Below.refl w.heap.size w).alloc (Nat.le_refl _) (.cells x.arr 26)
  have hS : Below w.heap.size w (w.alloc (.cells x.arr 26)).drew := hA.trans (Below.quiet ⟨1, rfl⟩)
  have hv0 := (Var.made w x.arr 26 (n := w.heap.size) rfl).drew
  have hsz : (w.alloc (.cells x.arr 26)).drew.heap.size = w.heap.size + 1 := by simp [World.drew]
  have hsk : (bs k).size ≤ 9223372036854775807 := by rw [bs_size]; omega
  have hKv := hK.below hS (Nat.le_refl _)
  go_enter Tryd.func74, Tryd.ntmps74
  go_wp2_with fail
  refine wp_region_schT (Keep (fun k => k < w.heap.size + 1)) (Keep.refl (fun k => k < w.heap.size + 1)) (fun _ _ _ h k => h.trans k) (.pure 2 (.pure 3 (.pure 5 (.pure 6 (.one 0 (.one 1 (.one 4 (.one 7 (.pure 8 .done))))))))) (by kernel_rfl) (by kernel_rfl) (fun _ _ d _ _ h => by cases d <;> exact h) ?_
  generalize (w.alloc (.cells x.arr 26)).drew = v0 at *
  have al := (hv0).lt
  have a0 : ∀ w', Keep (fun k => k < w.heap.size + 1) v0 w' → w'.cell? ⟨w.heap.size, 0, none⟩ = some (.string (x).to) := fun w' k => ((hv0).keep k (by first | trivial | exact al | omega | (show _ < _; omega))).cell 0
  have a1 : ∀ w', Keep (fun k => k < w.heap.size + 1) v0 w' → w'.cell? ⟨w.heap.size, 1, none⟩ = some (.int .u64 (x).nonce) := fun w' k => ((hv0).keep k (by first | trivial | exact al | omega | (show _ < _; omega))).cell 1
  have a2 : ∀ w', Keep (fun k => k < w.heap.size + 1) v0 w' → w'.cell? ⟨w.heap.size, 2, none⟩ = some (.string (x).entry.name) := fun w' k => ((hv0).keep k (by first | trivial | exact al | omega | (show _ < _; omega))).cell 2
  have a3 : ∀ w', Keep (fun k => k < w.heap.size + 1) v0 w' → w'.cell? ⟨w.heap.size, 3, none⟩ = some (.int .u64 (x).entry.id) := fun w' k => ((hv0).keep k (by first | trivial | exact al | omega | (show _ < _; omega))).cell 3
  have a4 : ∀ w', Keep (fun k => k < w.heap.size + 1) v0 w' → w'.cell? ⟨w.heap.size, 4, none⟩ = some (.int .i64 (x).entry.frm) := fun w' k => ((hv0).keep k (by first | trivial | exact al | omega | (show _ < _; omega))).cell 4
  have a5 : ∀ w', Keep (fun k => k < w.heap.size + 1) v0 w' → w'.cell? ⟨w.heap.size, 5, none⟩ = some (.int .i64 (x).entry.unt) := fun w' k => ((hv0).keep k (by first | trivial | exact al | omega | (show _ < _; omega))).cell 5
  have a6 : ∀ w', Keep (fun k => k < w.heap.size + 1) v0 w' → w'.cell? ⟨w.heap.size, 6, none⟩ = some (.int .i64 (x).entry.idx) := fun w' k => ((hv0).keep k (by first | trivial | exact al | omega | (show _ < _; omega))).cell 6
  have a7 : ∀ w', Keep (fun k => k < w.heap.size + 1) v0 w' → w'.cell? ⟨w.heap.size, 7, none⟩ = some (.string (x).entry.tag) := fun w' k => ((hv0).keep k (by first | trivial | exact al | omega | (show _ < _; omega))).cell 7
  have a8 : ∀ w', Keep (fun k => k < w.heap.size + 1) v0 w' → w'.cell? ⟨w.heap.size, 8, none⟩ = some (.string (x).tag) := fun w' k => ((hv0).keep k (by first | trivial | exact al | omega | (show _ < _; omega))).cell 8
  repeat (first
  | (refine schT_pure (v := ?_) rfl (by first | exact wanted_none rfl | exact wanted_some rfl rfl rfl rfl) ?_ ?_; rotate_left 1; (focus (intro w' hw'; go_simp; (try with_reducible rfl); done)); (try simp only [Act.put, List.setIfInBounds_toArray, List.set_cons_zero, List.set_cons_succ]))
  | (refine schT_skip rfl (by first | exact wanted_not rfl rfl rfl rfl | exact wanted_undef rfl rfl rfl rfl) ?_; (try simp only [Act.put, List.setIfInBounds_toArray, List.set_cons_zero, List.set_cons_succ])))
  clear a0 a1 a2 a3 a4 a5 a6 a7 a8
  refine schT_one ?_
  refine grR_call rfl (by first | exact wanted_none rfl | exact wanted_some rfl rfl rfl rfl) (fun K hK => ?_)
  go_simp
  refine hK _ _ (Keep.below ((Below.refl _ _).alloc (Nat.le_refl _) _)) ?_
  clear hK K
  (try simp only [Act.put, List.setIfInBounds_toArray, List.set_cons_zero, List.set_cons_succ])
  have cv0 := lit_conv titleHC 14 rfl (w.heap.size + 1) v0 hsz
  refine schT_one ?_
  refine grR_call rfl (by first | exact wanted_none rfl | exact wanted_some rfl rfl rfl rfl) (fun K hK => ?_)
  go_simp
  clear cv0
  refine hK _ _ (keep_realloc _ _ _ (fun k hk => by omega)) ?_
  clear hK K
  (try simp only [Act.put, List.setIfInBounds_toArray, List.set_cons_zero, List.set_cons_succ])
  refine schT_one ?_
  refine grR_call rfl (by first | exact wanted_none rfl | exact wanted_some rfl rfl rfl rfl) (fun K hK => ?_)
  go_simp
  go_at_call 82
  (with_reducible refine (lit_text titleH titleHC 14 (14, 15) (free_end 14) rfl rfl (by decide) (w.heap.size + 1) v0 hsz x.to ok.to).mono ?_)
  rintro r v1 ⟨S1, z1, rfl, HZ1, hown1, hB1⟩
  refine hK _ _ (Keep.belowB hB1 (fun k hk => hk)) ?_
  clear hK K
  (try simp only [Act.put, List.setIfInBounds_toArray, List.set_cons_zero, List.set_cons_succ])
  have hb1 := ((Below.refl (w.heap.size + 1) v0).alloc (by omega) _).trans hB1
  have hz1 : z1.length ≤ 70000 := by rw [HZ1.out, List.length_append]; have := putText_length x.to.data.toList; simp [titleH]; omega
  have hs1 := hb1.size
  refine schT_one ?_
  refine grR_call rfl (by first | exact wanted_none rfl | exact wanted_some rfl rfl rfl rfl) (fun K hK => ?_)
  go_simp
  go_at_call 81
  (with_reducible refine (packNum (w.heap.size + 1) S1 z1 x.nonce 8 ok.nonce _ (hsz ▸ hs1) hown1 (by omega)).mono ?_)
  rintro r v2 ⟨S2, z2, rfl, HZ2, hown2, hext2⟩
  have hB2 := hext2.below hown1.lo (hsz ▸ hs1)
  refine hK _ _ (Keep.belowB hB2 (fun k hk => hk)) ?_
  clear hK K
  (try simp only [Act.put, List.setIfInBounds_toArray, List.set_cons_zero, List.set_cons_succ])
  repeat (first
  | (refine schT_pure (v := ?_) rfl (by first | exact wanted_none rfl | exact wanted_some rfl rfl rfl rfl) ?_ ?_; rotate_left 1; (focus (intro w' hw'; go_simp; (try with_reducible rfl); done)); (try simp only [Act.put, List.setIfInBounds_toArray, List.set_cons_zero, List.set_cons_succ]))
  | (refine schT_skip rfl (by first | exact wanted_not rfl rfl rfl rfl | exact wanted_undef rfl rfl rfl rfl) ?_; (try simp only [Act.put, List.setIfInBounds_toArray, List.set_cons_zero, List.set_cons_succ])))
  refine schT_done ?_
  have hb2 := hb1.trans hB2
  have hz2 : z2.length ≤ 80000 := by rw [HZ2.out, List.length_append]; have := putNum_length x.nonce 8; omega
  have hv2 := hv0.below hb2 (by omega)
  have hK2 := hKv.below hb2 (by omega)
  have hbs2 := hS.trans (hb2.mono (by omega))
  clear hb1 hs1
  obtain ⟨_, c0, c1, c2, c3, c4, c5, c6, c7, c8⟩ := hv2.nine
  have hB2s : w.heap.size + 1 ≤ v2.heap.size := by have := hb2.size; omega
  have hne2 : z2 ≠ [] := by rw [HZ2.out, HZ1.out]; simp [titleH]
  go_wp2_with (first
    | (with_reducible refine wl_bytes 9 42 (.tmp 14) rfl rfl rfl hsk Tryd.underlying9 Tryd.underlying42 Tryd.underlying5 ?_; intro Sk wk zk HZk ownk hbk; have hzk : zk.length ≤ 1048576 := (by rw [HZk.out, toList_bs]; exact hl); have rk := ownk.rd; have own2k := hown2.below hbk (Nat.le_refl _); have hbt3 := hb2.trans (hbk.mono hB2s); have hbs3 := hbs2.trans (hbk.mono hbs2.size); have hs3 := hbs3.size; have hv3 := hv2.below hbk hv2.lt; obtain ⟨_, d0, d1, d2, d3, d4, d5, d6, d7, d8⟩ := hv3.nine; have hnk := (fun (_ : zk ≠ []) => sl_apart hown2 hne2 ownk); have hBks := Nat.le_trans hB2s hbk.size)
    | (go_at_call 83; (with_reducible refine (helText (w.heap.size + 1) S2 z2 x.entry ok.entry hg _ hBks own2k (by omega)).mono ?_); rintro r v4 ⟨S4, z4, rfl, HZ4, hown4, hext4⟩; have hz4 : z4.length ≤ 200000 := (by rw [HZ4.out, List.length_append]; have := putText_length x.entry.bytes; omega); have rk4 := rk.ext hext4 hnk; have hb4 := hext4.below own2k.lo hBks; have hbs4 := hbs3.trans (hb4.mono (by omega)); have hK4 := hKv.below (hbt3.trans hb4) (by omega))
    | (go_at_call 114; (with_reducible refine (macSum Sk S4 zk z4 _ rk4 hown4.rd hzk (by omega) hK4).mono ?_); rintro r v5 ⟨S5, z5, rfl, HZ5, hown5, hb5⟩; have cv5 := convF hown5.rd _ (Below.refl _ _)))
  go_ret
  have hz5 : z5 = tagH k x.to x.nonce x.entry := by rw [HZ5.out, HZk.out, toList_bs, HZ4.out, HZ2.out, HZ1.out]; rfl
  rw [← hz5]
  exact ⟨rfl, hbs4.trans (hb5.mono hbs4.size)⟩
set_option maxRecDepth 8000 in
set_option maxHeartbeats 6400000 in
theorem helTagW (k : List UInt8) (x : Welc) (e : Entry) (ok : x.Ok) (oke : e.Ok) (hg : x.entry.tag.size ≤ 140737488351232) (hge : e.tag.size ≤ 140737488351232) (hl : k.length ≤ 1048576) (w : World) (hK : Kt w) :
    Calls Tryd.prog 75 #[.string (bs k), x.val, e.val] w fun r w' => r = .returned (.string (bs (tagW k x.one x.two e x.entry))) ∧ Below w.heap.size w w' := by
  have hA := (Below.refl w.heap.size w).alloc (Nat.le_refl _) (.cells x.arr 28)
  have hA2 := hA.alloc hA.size (.cells e.arr 24)
  have hS : Below w.heap.size w ((w.alloc (.cells x.arr 28)).alloc (.cells e.arr 24)).drew := hA2.trans (Below.quiet ⟨1, rfl⟩)
  have hv0 := ((Var.made w x.arr 28 (n := w.heap.size) rfl).alloc (.cells e.arr 24)).drew
  have he0 := (Var.made (w.alloc (.cells x.arr 28)) e.arr 24 (n := w.heap.size + 1) (by simp)).drew
  have hsz : ((w.alloc (.cells x.arr 28)).alloc (.cells e.arr 24)).drew.heap.size = w.heap.size + 2 := by simp [World.drew]
  have hsk : (bs k).size ≤ 9223372036854775807 := by rw [bs_size]; omega
  have hKv := hK.below hS (Nat.le_refl _)
  go_enter Tryd.func75, Tryd.ntmps75
  go_wp2_with fail
  refine wp_region_schT (Keep (fun k => k < w.heap.size + 2)) (Keep.refl (fun k => k < w.heap.size + 2)) (fun _ _ _ h k => h.trans k) (.pure 2 (.pure 3 (.pure 5 (.pure 6 (.one 0 (.one 1 (.one 4 (.one 7 (.pure 8 .done))))))))) (by kernel_rfl) (by kernel_rfl) (fun _ _ d _ _ h => by cases d <;> exact h) ?_
  generalize ((w.alloc (.cells x.arr 28)).alloc (.cells e.arr 24)).drew = v0 at *
  have al := (hv0).lt
  have a0 : ∀ w', Keep (fun k => k < w.heap.size + 2) v0 w' → w'.cell? ⟨w.heap.size, 0, none⟩ = some (.int .u64 (x).one) := fun w' k => ((hv0).keep k (by first | trivial | exact al | omega | (show _ < _; omega))).cell 0
  have a1 : ∀ w', Keep (fun k => k < w.heap.size + 2) v0 w' → w'.cell? ⟨w.heap.size, 1, none⟩ = some (.int .u64 (x).two) := fun w' k => ((hv0).keep k (by first | trivial | exact al | omega | (show _ < _; omega))).cell 1
  have a2 : ∀ w', Keep (fun k => k < w.heap.size + 2) v0 w' → w'.cell? ⟨w.heap.size, 2, none⟩ = some (.string (x).entry.name) := fun w' k => ((hv0).keep k (by first | trivial | exact al | omega | (show _ < _; omega))).cell 2
  have a3 : ∀ w', Keep (fun k => k < w.heap.size + 2) v0 w' → w'.cell? ⟨w.heap.size, 3, none⟩ = some (.int .u64 (x).entry.id) := fun w' k => ((hv0).keep k (by first | trivial | exact al | omega | (show _ < _; omega))).cell 3
  have a4 : ∀ w', Keep (fun k => k < w.heap.size + 2) v0 w' → w'.cell? ⟨w.heap.size, 4, none⟩ = some (.int .i64 (x).entry.frm) := fun w' k => ((hv0).keep k (by first | trivial | exact al | omega | (show _ < _; omega))).cell 4
  have a5 : ∀ w', Keep (fun k => k < w.heap.size + 2) v0 w' → w'.cell? ⟨w.heap.size, 5, none⟩ = some (.int .i64 (x).entry.unt) := fun w' k => ((hv0).keep k (by first | trivial | exact al | omega | (show _ < _; omega))).cell 5
  have a6 : ∀ w', Keep (fun k => k < w.heap.size + 2) v0 w' → w'.cell? ⟨w.heap.size, 6, none⟩ = some (.int .i64 (x).entry.idx) := fun w' k => ((hv0).keep k (by first | trivial | exact al | omega | (show _ < _; omega))).cell 6
  have a7 : ∀ w', Keep (fun k => k < w.heap.size + 2) v0 w' → w'.cell? ⟨w.heap.size, 7, none⟩ = some (.string (x).entry.tag) := fun w' k => ((hv0).keep k (by first | trivial | exact al | omega | (show _ < _; omega))).cell 7
  have a8 : ∀ w', Keep (fun k => k < w.heap.size + 2) v0 w' → w'.cell? ⟨w.heap.size, 8, none⟩ = some (.string (x).tag) := fun w' k => ((hv0).keep k (by first | trivial | exact al | omega | (show _ < _; omega))).cell 8
  repeat (first
  | (refine schT_pure (v := ?_) rfl (by first | exact wanted_none rfl | exact wanted_some rfl rfl rfl rfl) ?_ ?_; rotate_left 1; (focus (intro w' hw'; go_simp; (try with_reducible rfl); done)); (try simp only [Act.put, List.setIfInBounds_toArray, List.set_cons_zero, List.set_cons_succ]))
  | (refine schT_skip rfl (by first | exact wanted_not rfl rfl rfl rfl | exact wanted_undef rfl rfl rfl rfl) ?_; (try simp only [Act.put, List.setIfInBounds_toArray, List.set_cons_zero, List.set_cons_succ])))
  clear a0 a1 a2 a3 a4 a5 a6 a7 a8
  refine schT_one ?_
  refine grR_call rfl (by first | exact wanted_none rfl | exact wanted_some rfl rfl rfl rfl) (fun K hK => ?_)
  go_simp
  refine hK _ _ (Keep.below ((Below.refl _ _).alloc (Nat.le_refl _) _)) ?_
  clear hK K
  (try simp only [Act.put, List.setIfInBounds_toArray, List.set_cons_zero, List.set_cons_succ])
  have cv0 := lit_conv titleWC 16 rfl (w.heap.size + 2) v0 hsz
  refine schT_one ?_
  refine grR_call rfl (by first | exact wanted_none rfl | exact wanted_some rfl rfl rfl rfl) (fun K hK => ?_)
  go_simp
  clear cv0
  refine hK _ _ (keep_realloc _ _ _ (fun k hk => by omega)) ?_
  clear hK K
  (try simp only [Act.put, List.setIfInBounds_toArray, List.set_cons_zero, List.set_cons_succ])
  refine schT_one ?_
  refine grR_call rfl (by first | exact wanted_none rfl | exact wanted_some rfl rfl rfl rfl) (fun K hK => ?_)
  go_simp
  go_at_call 81
  (with_reducible refine (lit_num titleW titleWC 16 (16, 17) (free_end 16) rfl rfl (by decide) (w.heap.size + 2) v0 hsz x.one 8 ok.one).mono ?_)
  rintro r v1 ⟨S1, z1, rfl, HZ1, hown1, hB1⟩
  refine hK _ _ (Keep.belowB hB1 (fun k hk => hk)) ?_
  clear hK K
  (try simp only [Act.put, List.setIfInBounds_toArray, List.set_cons_zero, List.set_cons_succ])
  have hb1 := ((Below.refl (w.heap.size + 2) v0).alloc (by omega) _).trans hB1
  have hz1 : z1.length ≤ 100 := by rw [HZ1.out, List.length_append]; have := putNum_length x.one 8; simp [titleW]; omega
  have hs1 := hb1.size
  refine schT_one ?_
  refine grR_call rfl (by first | exact wanted_none rfl | exact wanted_some rfl rfl rfl rfl) (fun K hK => ?_)
  go_simp
  go_at_call 81
  (with_reducible refine (packNum (w.heap.size + 2) S1 z1 x.two 8 ok.two _ (hsz ▸ hs1) hown1 (by omega)).mono ?_)
  rintro r v2 ⟨S2, z2, rfl, HZ2, hown2, hext2⟩
  have hB2 := hext2.below hown1.lo (hsz ▸ hs1)
  refine hK _ _ (Keep.belowB hB2 (fun k hk => hk)) ?_
  clear hK K
  (try simp only [Act.put, List.setIfInBounds_toArray, List.set_cons_zero, List.set_cons_succ])
  repeat (first
  | (refine schT_pure (v := ?_) rfl (by first | exact wanted_none rfl | exact wanted_some rfl rfl rfl rfl) ?_ ?_; rotate_left 1; (focus (intro w' hw'; go_simp; (try with_reducible rfl); done)); (try simp only [Act.put, List.setIfInBounds_toArray, List.set_cons_zero, List.set_cons_succ]))
  | (refine schT_skip rfl (by first | exact wanted_not rfl rfl rfl rfl | exact wanted_undef rfl rfl rfl rfl) ?_; (try simp only [Act.put, List.setIfInBounds_toArray, List.set_cons_zero, List.set_cons_succ])))
  refine schT_done ?_
  have hb2 : Below (w.heap.size + 2) v0 v2.drew := (hb1.trans hB2).trans (Below.quiet ⟨1, rfl⟩)
  have hz2 : z2.length ≤ 200 := by rw [HZ2.out, List.length_append]; have := putNum_length x.two 8; omega
  have hv2 := hv0.below hb2 (by omega)
  have he2 := he0.below hb2 (by omega)
  have own2 := hown2.drew
  have hBs2 : w.heap.size + 2 ≤ v2.drew.heap.size := by have := hb2.size; omega
  have hne2 : z2 ≠ [] := by rw [HZ2.out, HZ1.out]; simp [titleW]
  clear hb1 hs1 hv0 he0 hown2 hext2 hB2 hB1 hown1 hz1
  go_wp2_with fail
  refine wp_region_schT (Keep (fun k => k < w.heap.size + 2)) (Keep.refl (fun k => k < w.heap.size + 2)) (fun _ _ _ h k => h.trans k) (.pure 0 (.pure 2 (.pure 3 (.pure 5 (.pure 6 (.two 1 (.one 4 (.one 7 (.one 8 (.one 9 (.pure 10 .done))))) 4 (.two 1 (.one 7 (.one 8 (.one 9 (.pure 10 .done)))) 7 (.one 1 (.one 8 (.one 9 (.pure 10 .done))))))))))) (by kernel_rfl) (by kernel_rfl) (fun _ _ d _ _ h => by cases d <;> exact h) ?_
  generalize v2.drew = v3 at *
  have al := (hv2).lt
  have a0 : ∀ w', Keep (fun k => k < w.heap.size + 2) v3 w' → w'.cell? ⟨w.heap.size, 0, none⟩ = some (.int .u64 (x).one) := fun w' k => ((hv2).keep k (by first | trivial | exact al | omega | (show _ < _; omega))).cell 0
  have a1 : ∀ w', Keep (fun k => k < w.heap.size + 2) v3 w' → w'.cell? ⟨w.heap.size, 1, none⟩ = some (.int .u64 (x).two) := fun w' k => ((hv2).keep k (by first | trivial | exact al | omega | (show _ < _; omega))).cell 1
  have a2 : ∀ w', Keep (fun k => k < w.heap.size + 2) v3 w' → w'.cell? ⟨w.heap.size, 2, none⟩ = some (.string (x).entry.name) := fun w' k => ((hv2).keep k (by first | trivial | exact al | omega | (show _ < _; omega))).cell 2
  have a3 : ∀ w', Keep (fun k => k < w.heap.size + 2) v3 w' → w'.cell? ⟨w.heap.size, 3, none⟩ = some (.int .u64 (x).entry.id) := fun w' k => ((hv2).keep k (by first | trivial | exact al | omega | (show _ < _; omega))).cell 3
  have a4 : ∀ w', Keep (fun k => k < w.heap.size + 2) v3 w' → w'.cell? ⟨w.heap.size, 4, none⟩ = some (.int .i64 (x).entry.frm) := fun w' k => ((hv2).keep k (by first | trivial | exact al | omega | (show _ < _; omega))).cell 4
  have a5 : ∀ w', Keep (fun k => k < w.heap.size + 2) v3 w' → w'.cell? ⟨w.heap.size, 5, none⟩ = some (.int .i64 (x).entry.unt) := fun w' k => ((hv2).keep k (by first | trivial | exact al | omega | (show _ < _; omega))).cell 5
  have a6 : ∀ w', Keep (fun k => k < w.heap.size + 2) v3 w' → w'.cell? ⟨w.heap.size, 6, none⟩ = some (.int .i64 (x).entry.idx) := fun w' k => ((hv2).keep k (by first | trivial | exact al | omega | (show _ < _; omega))).cell 6
  have a7 : ∀ w', Keep (fun k => k < w.heap.size + 2) v3 w' → w'.cell? ⟨w.heap.size, 7, none⟩ = some (.string (x).entry.tag) := fun w' k => ((hv2).keep k (by first | trivial | exact al | omega | (show _ < _; omega))).cell 7
  have a8 : ∀ w', Keep (fun k => k < w.heap.size + 2) v3 w' → w'.cell? ⟨w.heap.size, 8, none⟩ = some (.string (x).tag) := fun w' k => ((hv2).keep k (by first | trivial | exact al | omega | (show _ < _; omega))).cell 8
  have b0 : ∀ w', Keep (fun k => k < w.heap.size + 2) v3 w' → w'.cell? ⟨w.heap.size + 1, 0, none⟩ = some (.string e.name) := fun w' k => (he2.keep k (show _ < _ by omega)).cell 0
  have b1 : ∀ w', Keep (fun k => k < w.heap.size + 2) v3 w' → w'.cell? ⟨w.heap.size + 1, 1, none⟩ = some (.int .u64 e.id) := fun w' k => (he2.keep k (show _ < _ by omega)).cell 1
  have b2 : ∀ w', Keep (fun k => k < w.heap.size + 2) v3 w' → w'.cell? ⟨w.heap.size + 1, 2, none⟩ = some (.int .i64 e.frm) := fun w' k => (he2.keep k (show _ < _ by omega)).cell 2
  have b3 : ∀ w', Keep (fun k => k < w.heap.size + 2) v3 w' → w'.cell? ⟨w.heap.size + 1, 3, none⟩ = some (.int .i64 e.unt) := fun w' k => (he2.keep k (show _ < _ by omega)).cell 3
  have b4 : ∀ w', Keep (fun k => k < w.heap.size + 2) v3 w' → w'.cell? ⟨w.heap.size + 1, 4, none⟩ = some (.int .i64 e.idx) := fun w' k => (he2.keep k (show _ < _ by omega)).cell 4
  have b5 : ∀ w', Keep (fun k => k < w.heap.size + 2) v3 w' → w'.cell? ⟨w.heap.size + 1, 5, none⟩ = some (.string e.tag) := fun w' k => (he2.keep k (show _ < _ by omega)).cell 5
  repeat (first
  | (refine schT_pure (v := ?_) rfl (by first | exact wanted_none rfl | exact wanted_some rfl rfl rfl rfl) ?_ ?_; rotate_left 1; (focus (intro w' hw'; go_simp; (try with_reducible rfl); done)); (try simp only [Act.put, List.setIfInBounds_toArray, List.set_cons_zero, List.set_cons_succ]))
  | (refine schT_skip rfl (by first | exact wanted_not rfl rfl rfl rfl | exact wanted_undef rfl rfl rfl rfl) ?_; (try simp only [Act.put, List.setIfInBounds_toArray, List.set_cons_zero, List.set_cons_succ])))
  clear a0 a1 a2 a3 a4 a5 a6 a7 a8 b0 b1 b2 b3 b4 b5
  have hbt2 := Below.refl (w.heap.size + 2) v3
  refine schT_two ?_ ?_
  · skip
    refine grR_bytes (fun x y h => Keep.below h) (x := .tmp 16) rfl (by first | exact wanted_none rfl | exact wanted_some rfl rfl rfl rfl) rfl rfl hsk Tryd.underlying9 Tryd.underlying42 Tryd.underlying5 ?_
    intro Sk wk zk HZk ownk hbk
    have hzk : zk.length ≤ 1048576 := by rw [HZk.out, toList_bs]; exact hl
    have rk := ownk.rd
    have nk := fun (_ : zk ≠ []) => sl_apart own2 hne2 ownk
    have ownx := (own2).below hbk (Nat.le_refl _)
    have hbtk := (hbt2).trans (hbk.mono hBs2)
    have hBsk := Nat.le_trans hBs2 hbk.size
    (try simp only [Act.put, List.setIfInBounds_toArray, List.set_cons_zero, List.set_cons_succ])
    refine schT_one ?_
    refine grR_call rfl (by first | exact wanted_none rfl | exact wanted_some rfl rfl rfl rfl) (fun K hK => ?_)
    go_simp
    go_at_call 83
    (with_reducible refine (helText (w.heap.size + 2) S2 z2 e oke hge _ hBsk ownx (by omega)).mono ?_)
    rintro r v4 ⟨S4, z4, rfl, HZ4, own4, hext4⟩
    have hb4 := hext4.below (ownx).lo hBsk
    have hbt4 := (hbtk).trans hb4
    have hBs4 := Nat.le_trans hBsk hb4.size
    have hzl4 : z4.length ≤ (z2).length + 65543 := by rw [HZ4.out, List.length_append]; have := putText_length (e).bytes; omega
    refine hK _ _ (Keep.belowB hb4 (fun k hk => hk)) ?_
    clear hK K
    (try simp only [Act.put, List.setIfInBounds_toArray, List.set_cons_zero, List.set_cons_succ])
    have rk4 := rk.ext hext4 nk
    have nk4 := nk_next rk nk hext4
    refine schT_one ?_
    refine grR_call rfl (by first | exact wanted_none rfl | exact wanted_some rfl rfl rfl rfl) (fun K hK => ?_)
    go_simp
    go_at_call 83
    (with_reducible refine (helText (w.heap.size + 2) S4 z4 x.entry ok.entry hg _ hBs4 own4 (by omega)).mono ?_)
    rintro r v5 ⟨S5, z5, rfl, HZ5, own5, hext5⟩
    have hb5 := hext5.below (own4).lo hBs4
    have hbt5 := (hbt4).trans hb5
    have hBs5 := Nat.le_trans hBs4 hb5.size
    have hzl5 : z5.length ≤ (z4).length + 65543 := by rw [HZ5.out, List.length_append]; have := putText_length (x.entry).bytes; omega
    refine hK _ _ (Keep.belowB hb5 (fun k hk => hk)) ?_
    clear hK K
    (try simp only [Act.put, List.setIfInBounds_toArray, List.set_cons_zero, List.set_cons_succ])
    have rk5 := rk4.ext hext5 nk4
    refine schT_one ?_
    refine grR_call rfl (by first | exact wanted_none rfl | exact wanted_some rfl rfl rfl rfl) (fun K hK => ?_)
    go_simp
    go_at_call 114
    (with_reducible refine (macSum Sk S5 zk z5 _ rk5 (own5).rd hzk (by omega) (hKv.below (hb2.trans hbt5) (by omega))).mono ?_)
    rintro r v8 ⟨S8, z8, rfl, HZ8, own8, hb8⟩
    have cv8 := convF own8.rd
    refine hK _ _ (Keep.below hb8) ?_
    clear hK K
    (try simp only [Act.put, List.setIfInBounds_toArray, List.set_cons_zero, List.set_cons_succ])
    have hbe := (hbt5).trans (hb8.mono (by have := (hbt5).size; omega))
    have cv8 := convF own8.rd _ (Below.refl _ _)
    refine schT_one ?_
    refine grR_call rfl (by first | exact wanted_none rfl | exact wanted_some rfl rfl rfl rfl) (fun K hK => ?_)
    go_simp
    clear cv8
    refine hK _ _ (Keep.refl _ _) ?_
    clear hK K
    (try simp only [Act.put, List.setIfInBounds_toArray, List.set_cons_zero, List.set_cons_succ])
    repeat (first
    | (refine schT_pure (v := ?_) rfl (by first | exact wanted_none rfl | exact wanted_some rfl rfl rfl rfl) ?_ ?_; rotate_left 1; (focus (intro w' hw'; go_simp; (try with_reducible rfl); done)); (try simp only [Act.put, List.setIfInBounds_toArray, List.set_cons_zero, List.set_cons_succ]))
    | (refine schT_skip rfl (by first | exact wanted_not rfl rfl rfl rfl | exact wanted_undef rfl rfl rfl rfl) ?_; (try simp only [Act.put, List.setIfInBounds_toArray, List.set_cons_zero, List.set_cons_succ])))
    refine schT_done ?_
    go_wp2
    go_ret
    have hz8 : z8 = tagW k x.one x.two e x.entry := by rw [HZ8.out, HZk.out, toList_bs, HZ5.out, HZ4.out, HZ2.out, HZ1.out]; rfl
    rw [← hz8]
    exact ⟨rfl, (hS.trans ((hb2.trans hbe).mono (by omega)))⟩
  · skip
    refine grR_call rfl (by first | exact wanted_none rfl | exact wanted_some rfl rfl rfl rfl) (fun K hK => ?_)
    go_simp
    go_at_call 83
    (with_reducible refine (helText (w.heap.size + 2) S2 z2 e oke hge _ hBs2 own2 (by omega)).mono ?_)
    rintro r v4 ⟨S4, z4, rfl, HZ4, own4, hext4⟩
    have hb4 := hext4.below (own2).lo hBs2
    have hbt4 := (hbt2).trans hb4
    have hBs4 := Nat.le_trans hBs2 hb4.size
    have hzl4 : z4.length ≤ (z2).length + 65543 := by rw [HZ4.out, List.length_append]; have := putText_length (e).bytes; omega
    refine hK _ _ (Keep.belowB hb4 (fun k hk => hk)) ?_
    clear hK K
    (try simp only [Act.put, List.setIfInBounds_toArray, List.set_cons_zero, List.set_cons_succ])
    have hne4 : z4 ≠ [] := by rw [HZ4.out]; exact fun h => hne2 (List.append_eq_nil_iff.1 h).1
    refine schT_two ?_ ?_
    · skip
      refine grR_bytes (fun x y h => Keep.below h) (x := .tmp 16) rfl (by first | exact wanted_none rfl | exact wanted_some rfl rfl rfl rfl) rfl rfl hsk Tryd.underlying9 Tryd.underlying42 Tryd.underlying5 ?_
      intro Sk wk zk HZk ownk hbk
      have hzk : zk.length ≤ 1048576 := by rw [HZk.out, toList_bs]; exact hl
      have rk := ownk.rd
      have nk := fun (_ : zk ≠ []) => sl_apart own4 hne4 ownk
      have ownx := (own4).below hbk (Nat.le_refl _)
      have hbtk := (hbt4).trans (hbk.mono hBs4)
      have hBsk := Nat.le_trans hBs4 hbk.size
      (try simp only [Act.put, List.setIfInBounds_toArray, List.set_cons_zero, List.set_cons_succ])
      refine schT_one ?_
      refine grR_call rfl (by first | exact wanted_none rfl | exact wanted_some rfl rfl rfl rfl) (fun K hK => ?_)
      go_simp
      go_at_call 83
      (with_reducible refine (helText (w.heap.size + 2) S4 z4 x.entry ok.entry hg _ hBsk ownx (by omega)).mono ?_)
      rintro r v5 ⟨S5, z5, rfl, HZ5, own5, hext5⟩
      have hb5 := hext5.below (ownx).lo hBsk
      have hbt5 := (hbtk).trans hb5
      have hBs5 := Nat.le_trans hBsk hb5.size
      have hzl5 : z5.length ≤ (z4).length + 65543 := by rw [HZ5.out, List.length_append]; have := putText_length (x.entry).bytes; omega
      refine hK _ _ (Keep.belowB hb5 (fun k hk => hk)) ?_
      clear hK K
      (try simp only [Act.put, List.setIfInBounds_toArray, List.set_cons_zero, List.set_cons_succ])
      have rk5 := rk.ext hext5 nk
      refine schT_one ?_
      refine grR_call rfl (by first | exact wanted_none rfl | exact wanted_some rfl rfl rfl rfl) (fun K hK => ?_)
      go_simp
      go_at_call 114
      (with_reducible refine (macSum Sk S5 zk z5 _ rk5 (own5).rd hzk (by omega) (hKv.below (hb2.trans hbt5) (by omega))).mono ?_)
      rintro r v8 ⟨S8, z8, rfl, HZ8, own8, hb8⟩
      have cv8 := convF own8.rd
      refine hK _ _ (Keep.below hb8) ?_
      clear hK K
      (try simp only [Act.put, List.setIfInBounds_toArray, List.set_cons_zero, List.set_cons_succ])
      have hbe := (hbt5).trans (hb8.mono (by have := (hbt5).size; omega))
      have cv8 := convF own8.rd _ (Below.refl _ _)
      refine schT_one ?_
      refine grR_call rfl (by first | exact wanted_none rfl | exact wanted_some rfl rfl rfl rfl) (fun K hK => ?_)
      go_simp
      clear cv8
      refine hK _ _ (Keep.refl _ _) ?_
      clear hK K
      (try simp only [Act.put, List.setIfInBounds_toArray, List.set_cons_zero, List.set_cons_succ])
      repeat (first
      | (refine schT_pure (v := ?_) rfl (by first | exact wanted_none rfl | exact wanted_some rfl rfl rfl rfl) ?_ ?_; rotate_left 1; (focus (intro w' hw'; go_simp; (try with_reducible rfl); done)); (try simp only [Act.put, List.setIfInBounds_toArray, List.set_cons_zero, List.set_cons_succ]))
      | (refine schT_skip rfl (by first | exact wanted_not rfl rfl rfl rfl | exact wanted_undef rfl rfl rfl rfl) ?_; (try simp only [Act.put, List.setIfInBounds_toArray, List.set_cons_zero, List.set_cons_succ])))
      refine schT_done ?_
      go_wp2
      go_ret
      have hz8 : z8 = tagW k x.one x.two e x.entry := by rw [HZ8.out, HZk.out, toList_bs, HZ5.out, HZ4.out, HZ2.out, HZ1.out]; rfl
      rw [← hz8]
      exact ⟨rfl, (hS.trans ((hb2.trans hbe).mono (by omega)))⟩
    · skip
      refine grR_call rfl (by first | exact wanted_none rfl | exact wanted_some rfl rfl rfl rfl) (fun K hK => ?_)
      go_simp
      go_at_call 83
      (with_reducible refine (helText (w.heap.size + 2) S4 z4 x.entry ok.entry hg _ hBs4 own4 (by omega)).mono ?_)
      rintro r v5 ⟨S5, z5, rfl, HZ5, own5, hext5⟩
      have hb5 := hext5.below (own4).lo hBs4
      have hbt5 := (hbt4).trans hb5
      have hBs5 := Nat.le_trans hBs4 hb5.size
      have hzl5 : z5.length ≤ (z4).length + 65543 := by rw [HZ5.out, List.length_append]; have := putText_length (x.entry).bytes; omega
      refine hK _ _ (Keep.belowB hb5 (fun k hk => hk)) ?_
      clear hK K
      (try simp only [Act.put, List.setIfInBounds_toArray, List.set_cons_zero, List.set_cons_succ])
      have hne5 : z5 ≠ [] := by rw [HZ5.out]; exact fun h => hne4 (List.append_eq_nil_iff.1 h).1
      refine schT_one ?_
      refine grR_bytes (fun x y h => Keep.below h) (x := .tmp 16) rfl (by first | exact wanted_none rfl | exact wanted_some rfl rfl rfl rfl) rfl rfl hsk Tryd.underlying9 Tryd.underlying42 Tryd.underlying5 ?_
      intro Sk wk zk HZk ownk hbk
      have hzk : zk.length ≤ 1048576 := by rw [HZk.out, toList_bs]; exact hl
      have rk := ownk.rd
      have nk := fun (_ : zk ≠ []) => sl_apart own5 hne5 ownk
      have ownx := (own5).below hbk (Nat.le_refl _)
      have hbtk := (hbt5).trans (hbk.mono hBs5)
      have hBsk := Nat.le_trans hBs5 hbk.size
      (try simp only [Act.put, List.setIfInBounds_toArray, List.set_cons_zero, List.set_cons_succ])
      refine schT_one ?_
      refine grR_call rfl (by first | exact wanted_none rfl | exact wanted_some rfl rfl rfl rfl) (fun K hK => ?_)
      go_simp
      go_at_call 114
      (with_reducible refine (macSum Sk S5 zk z5 _ rk (ownx).rd hzk (by omega) (hKv.below (hb2.trans hbtk) (by omega))).mono ?_)
      rintro r v8 ⟨S8, z8, rfl, HZ8, own8, hb8⟩
      have cv8 := convF own8.rd
      refine hK _ _ (Keep.below hb8) ?_
      clear hK K
      (try simp only [Act.put, List.setIfInBounds_toArray, List.set_cons_zero, List.set_cons_succ])
      have hbe := (hbtk).trans (hb8.mono (by have := (hbtk).size; omega))
      have cv8 := convF own8.rd _ (Below.refl _ _)
      refine schT_one ?_
      refine grR_call rfl (by first | exact wanted_none rfl | exact wanted_some rfl rfl rfl rfl) (fun K hK => ?_)
      go_simp
      clear cv8
      refine hK _ _ (Keep.refl _ _) ?_
      clear hK K
      (try simp only [Act.put, List.setIfInBounds_toArray, List.set_cons_zero, List.set_cons_succ])
      repeat (first
      | (refine schT_pure (v := ?_) rfl (by first | exact wanted_none rfl | exact wanted_some rfl rfl rfl rfl) ?_ ?_; rotate_left 1; (focus (intro w' hw'; go_simp; (try with_reducible rfl); done)); (try simp only [Act.put, List.setIfInBounds_toArray, List.set_cons_zero, List.set_cons_succ]))
      | (refine schT_skip rfl (by first | exact wanted_not rfl rfl rfl rfl | exact wanted_undef rfl rfl rfl rfl) ?_; (try simp only [Act.put, List.setIfInBounds_toArray, List.set_cons_zero, List.set_cons_succ])))
      refine schT_done ?_
      go_wp2
      go_ret
      have hz8 : z8 = tagW k x.one x.two e x.entry := by rw [HZ8.out, HZk.out, toList_bs, HZ5.out, HZ4.out, HZ2.out, HZ1.out]; rfl
      rw [← hz8]
      exact ⟨rfl, (hS.trans ((hb2.trans hbe).mono (by omega)))⟩
end Go.Proofs.YtdajfggehffooaaDoor
end
section
set_option linter.unusedSimpArgs false
set_option linter.unusedVariables false

namespace Go.Proofs.YtdajfggehffooaaDoor
open Go.RowKit

theorem A_nineH : (Tryd.prog.info? 26).map (·.size) = some 9 := by kernel_rfl
theorem A_nineW : (Tryd.prog.info? 28).map (·.size) = some 9 := by kernel_rfl
abbrev World.put9 (w : World) (b : Nat) (a0 a1 a2 a3 a4 a5 a6 a7 a8 : Value) : World := ((((((((w.setCell ⟨b, 0, none⟩ a0).setCell ⟨b, 1, none⟩ a1).setCell ⟨b, 2, none⟩ a2).setCell ⟨b, 3, none⟩ a3).setCell ⟨b, 4, none⟩ a4).setCell ⟨b, 5, none⟩ a5).setCell ⟨b, 6, none⟩ a6).setCell ⟨b, 7, none⟩ a7).setCell ⟨b, 8, none⟩ a8
theorem Var.set9 {w : World} {b : Nat} {d0 d1 d2 d3 d4 d5 d6 d7 d8 : Value} (h : Var w b #[d0, d1, d2, d3, d4, d5, d6, d7, d8]) (a0 a1 a2 a3 a4 a5 a6 a7 a8 : Value) : Var (World.put9 w b a0 a1 a2 a3 a4 a5 a6 a7 a8) b #[a0, a1, a2, a3, a4, a5, a6, a7, a8] := by
  have h1 := ((((((((h.set 0 a0).set 1 a1).set 2 a2).set 3 a3).set 4 a4).set 5 a5).set 6 a6).set 7 a7).set 8 a8
  simp only [List.setIfInBounds_toArray, List.set_cons_zero, List.set_cons_succ] at h1
  exact h1
theorem below_setH {w0 w : World} (h : Below w0.heap.size w0 w) (b j : Nat) (hb : w0.heap.size ≤ b) (v : Value) : Below w0.heap.size w0 (w.setCell ⟨b, j, none⟩ v) :=
  h.grown (grownBy_setCell _ _ _ _) h.size (fun k hk => by cases hk; exact hb)
theorem below_put9 {w0 w : World} (h : Below w0.heap.size w0 w) (b : Nat) (hb : w0.heap.size ≤ b) (a0 a1 a2 a3 a4 a5 a6 a7 a8 : Value) : Below w0.heap.size w0 (World.put9 w b a0 a1 a2 a3 a4 a5 a6 a7 a8) :=
  below_setH (below_setH (below_setH (below_setH (below_setH (below_setH (below_setH (below_setH (below_setH h b 0 hb a0) b 1 hb a1) b 2 hb a2) b 3 hb a3) b 4 hb a4) b 5 hb a5) b 6 hb a6) b 7 hb a7) b 8 hb a8

theorem kind_ix {S : Sl} {n : Nat} {c : UInt8} {l : List UInt8} {w : World} (h : Rd rowU8 w S (c :: l)) (hn : (c :: l).length = n) :
    (∀ w', (Instr.indexAt 42 (.slice S.p n S.c) (.int .i64 0)).run Tryd.prog w' = .ok (.pointer (some ⟨S.b, S.off, none⟩)) w') ∧ w.cell? ⟨S.b, S.off, none⟩ = some (.int .u8 c.toNat) := by
  subst hn
  exact ⟨h.ix1 (P := Tryd.prog) Tryd.underlying42 A_one_u8 rfl (k := 0) (by simp), h.u8 (k := 0) (x := c) rfl⟩
set_option maxHeartbeats 1600000 in
theorem helKind (S : Sl) (l : List UInt8) (w : World) (h : Rd rowU8 w S l) : Calls Tryd.prog 31 #[.slice S.p l.length S.c] w fun r w' => r = .returned (.int .i64 (kindF l)) ∧ w = w' := by
  cases l with
  | nil =>
    go_enter Tryd.func31, Tryd.ntmps31
    go_wp2
    go_ret
    exact ⟨rfl, rfl⟩
  | cons c l =>
    obtain ⟨n, hn⟩ : ∃ n, (c :: l).length = n := ⟨_, rfl⟩
    have hlen : (n : Int) = (l.length : Int) + 1 := by rw [← hn]; simp <;> omega
    have m0 : ((n : Int) == 0) = false := by rw [hlen]; simp <;> omega
    have m0' : decide (0 < (n : Int)) = true := by rw [hlen]; simp <;> omega
    have m0n : decide (0 < n) = true := by simp only [decide_eq_true_eq]; omega
    have hc := byte_lt c
    have cw : IntKind.i64.wrap (c.toNat : Int) = (c.toNat : Int) := IntWalk.i64_in _ (by omega)
    have HK : Hid (kindF (c :: l) = if 1 ≤ c.toNat ∧ c.toNat ≤ 4 then (c.toNat : Int) else 0) := rfl
    obtain ⟨ix, cc⟩ := kind_ix h hn
    rw [hn]
    clear hn hlen
    by_cases h1 : c.toNat < 1
    · have m1 : decide ((c.toNat : Int) < 1) = true := by simp <;> omega
      go_enter Tryd.func31, Tryd.ntmps31
      go_wp2
      go_ret
      exact ⟨by rw [HK.out, if_neg (by omega)]; rfl, rfl⟩
    · have m1 : decide ((c.toNat : Int) < 1) = false := by simp <;> omega
      by_cases h4 : 4 < c.toNat
      · have m2 : decide (4 < (c.toNat : Int)) = true := by simp <;> omega
        go_enter Tryd.func31, Tryd.ntmps31
        go_wp2
        go_ret
        exact ⟨by rw [HK.out, if_neg (by omega)]; rfl, rfl⟩
      · have m2 : decide (4 < (c.toNat : Int)) = false := by simp <;> omega
        go_enter Tryd.func31, Tryd.ntmps31
        go_wp2
        go_ret
        exact ⟨by rw [HK.out, if_pos (by omega)]; rfl, rfl⟩
theorem helTagH0 (k : List UInt8) (to : ByteArray) (nonce : Int) (e : Entry) (hto : to.size ≤ 9223372036854775807) (hn : U64 nonce) (ok : e.Ok) (hg : e.tag.size ≤ 140737488351232) (hl : k.length ≤ 1048576) (w : World) (hK : Kt w) :
    Calls Tryd.prog 74 #[.string (bs k), .agg #[.string to, .int .u64 nonce, .string e.name, .int .u64 e.id, .int .i64 e.frm, .int .i64 e.unt, .int .i64 e.idx, .string e.tag, .string { data := #[] }]] w fun r w' => ∃ t, r = .returned (.string t) ∧ Hid (t = bs (tagH k to nonce e)) ∧ Below w.heap.size w w' :=
  (helTagH k ⟨to, nonce, e, ⟨#[]⟩⟩ ⟨hto, hn, ok, (by decide : (⟨#[]⟩ : ByteArray).size ≤ 9223372036854775807)⟩ hg hl w hK).mono fun r w' ⟨hr, hb⟩ => ⟨_, hr, rfl, hb⟩
theorem helTagW0 (k : List UInt8) (one two : Int) (e a : Entry) (h1 : U64 one) (h2 : U64 two) (ok : e.Ok) (oka : a.Ok) (hg : e.tag.size ≤ 140737488351232) (hga : a.tag.size ≤ 140737488351232) (hl : k.length ≤ 1048576) (w : World) (hK : Kt w) :
    Calls Tryd.prog 75 #[.string (bs k), .agg #[.int .u64 one, .int .u64 two, .string e.name, .int .u64 e.id, .int .i64 e.frm, .int .i64 e.unt, .int .i64 e.idx, .string e.tag, .string { data := #[] }], a.val] w fun r w' => ∃ t, r = .returned (.string t) ∧ Hid (t = bs (tagW k one two a e)) ∧ Below w.heap.size w w' :=
  (helTagW k ⟨one, two, e, ⟨#[]⟩⟩ a ⟨h1, h2, ok, (by decide : (⟨#[]⟩ : ByteArray).size ≤ 9223372036854775807)⟩ oka hg hga hl w hK).mono fun r w' ⟨hr, hb⟩ => ⟨_, hr, rfl, hb⟩
set_option maxHeartbeats 1600000 in
theorem helGreet (k : List UInt8) (to : ByteArray) (nonce : Int) (e : Entry) (hto : to.size ≤ 9223372036854775807) (hn : U64 nonce) (ok : e.Ok) (hg : e.tag.size ≤ 140737488351232) (hl : k.length ≤ 1048576) (w : World) (hK : Kt w) :
    Calls Tryd.prog 16 #[.string (bs k), .string to, .int .u64 nonce, e.val] w fun r w' => r = .returned (greetF k to nonce e).val ∧ Below w.heap.size w w' := by
  have hA := (Below.refl w.heap.size w).alloc (Nat.le_refl _) (.cells e.arr 24)
  have hB := hA.alloc hA.size (.cells Helo.zero.arr 26)
  have hC := hB.alloc hB.size (.cells (Helo.arr ⟨to, nonce, e, ⟨#[]⟩⟩) 26)
  have hz0 := (Var.made (w.alloc (.cells e.arr 24)) Helo.zero.arr 26 (n := w.heap.size + 1) (by simp)).alloc (.cells (Helo.arr ⟨to, nonce, e, ⟨#[]⟩⟩) 26)
  have hv0 := Var.made ((w.alloc (.cells e.arr 24)).alloc (.cells Helo.zero.arr 26)) (Helo.arr ⟨to, nonce, e, ⟨#[]⟩⟩) 26 (n := w.heap.size + 1 + 1) (by simp)
  go_enter Tryd.func16, Tryd.ntmps16
  go_wp2_with (go_at_call 74; (with_reducible refine (helTagH0 k to nonce e hto hn ok hg hl _ (hK.below hC (Nat.le_refl _))).mono ?_); rintro r w1 ⟨t, rfl, HT, hb1'⟩; have hb1 := hC.trans (hb1'.mono hC.size); have hv1 := hv0.below hb1' hv0.lt; have hz1 := hz0.below hb1' hz0.lt; obtain ⟨_, c0, c1, c2, c3, c4, c5, c6, c7, c8⟩ := hv1.nine; obtain ⟨_, d0, d1, d2, d3, d4, d5, d6, d7, d8⟩ := hz1.nine; obtain ⟨f0, f1, f2, f3, f4, f5, f6, f7, f8⟩ := hv1.frees9; obtain ⟨g0, g1, g2, g3, g4, g5, g6, g7, g8⟩ := hz1.frees9; have hbl := hv1.lt)
  have hz2 : Var (w1.setCell ⟨w.heap.size + 1 + 1, 8, none⟩ (.string t)) (w.heap.size + 1) Helo.zero.arr := hz1.setOther (by simp) _
  have hsg : greetF k to nonce e = ⟨to, nonce, e, t⟩ := by unfold greetF; rw [HT.out]
  rw [hsg]
  have t1 := hz2.set9 (.string to) (.int .u64 nonce) (.string e.name) (.int .u64 e.id) (.int .i64 e.frm) (.int .i64 e.unt) (.int .i64 e.idx) (.string e.tag) (.string t)
  have t2 := fun tm ht => results_cell (fn := Tryd.f16) (t := 8) (tmps := tm) (ty := 26) rfl ht t1 Tryd.underlying26 A_nineH
  refine bodyPost_ret (t2 _ ?_) rfl ?_
  · rfl
  exact ⟨rfl, below_put9 (below_setH hb1 _ _ (by omega) _) (w.heap.size + 1) (by omega) _ _ _ _ _ _ _ _ _⟩
set_option maxHeartbeats 1600000 in
theorem helAnswer (k : List UInt8) (x : Helo) (two : Int) (e : Entry) (okx : x.Ok) (h2 : U64 two) (ok : e.Ok) (hg : e.tag.size ≤ 140737488351232) (hgx : x.entry.tag.size ≤ 140737488351232) (hl : k.length ≤ 1048576) (w : World) (hK : Kt w) :
    Calls Tryd.prog 17 #[.string (bs k), x.val, .int .u64 two, e.val] w fun r w' => r = .returned (answerF k x two e).val ∧ Below w.heap.size w w' := by
  have hA0 := (Below.refl w.heap.size w).alloc (Nat.le_refl _) (.cells x.arr 26)
  have hA := hA0.alloc hA0.size (.cells e.arr 24)
  have hB := hA.alloc hA.size (.cells Welc.zero.arr 28)
  have hC := hB.alloc hB.size (.cells (Welc.arr ⟨x.nonce, two, e, ⟨#[]⟩⟩) 28)
  have hx0 := (((Var.made w x.arr 26 (n := w.heap.size) rfl).alloc (.cells e.arr 24)).alloc (.cells Welc.zero.arr 28)).alloc (.cells (Welc.arr ⟨x.nonce, two, e, ⟨#[]⟩⟩) 28)
  have hz0 := (Var.made ((w.alloc (.cells x.arr 26)).alloc (.cells e.arr 24)) Welc.zero.arr 28 (n := w.heap.size + 1 + 1) (by simp)).alloc (.cells (Welc.arr ⟨x.nonce, two, e, ⟨#[]⟩⟩) 28)
  have hv0 := Var.made (((w.alloc (.cells x.arr 26)).alloc (.cells e.arr 24)).alloc (.cells Welc.zero.arr 28)) (Welc.arr ⟨x.nonce, two, e, ⟨#[]⟩⟩) 28 (n := w.heap.size + 1 + 1 + 1) (by simp)
  go_enter Tryd.func17, Tryd.ntmps17
  go_wp2_with (go_at_call 75; (with_reducible refine (helTagW0 k x.nonce two e x.entry okx.nonce h2 ok okx.entry hg hgx hl _ (hK.below hC (Nat.le_refl _))).mono ?_); rintro r w1 ⟨t, rfl, HT, hb1'⟩; have hb1 := hC.trans (hb1'.mono hC.size); have hv1 := hv0.below hb1' hv0.lt; have hz1 := hz0.below hb1' hz0.lt; obtain ⟨_, c0, c1, c2, c3, c4, c5, c6, c7, c8⟩ := hv1.nine; obtain ⟨_, d0, d1, d2, d3, d4, d5, d6, d7, d8⟩ := hz1.nine; obtain ⟨f0, f1, f2, f3, f4, f5, f6, f7, f8⟩ := hv1.frees9; obtain ⟨g0, g1, g2, g3, g4, g5, g6, g7, g8⟩ := hz1.frees9; have hbl := hv1.lt)
  have hz2 : Var (w1.setCell ⟨w.heap.size + 1 + 1 + 1, 8, none⟩ (.string t)) (w.heap.size + 1 + 1) Welc.zero.arr := hz1.setOther (by simp) _
  have hsg : answerF k x two e = ⟨x.nonce, two, e, t⟩ := by unfold answerF; rw [HT.out]
  rw [hsg]
  have t1 := hz2.set9 (.int .u64 x.nonce) (.int .u64 two) (.string e.name) (.int .u64 e.id) (.int .i64 e.frm) (.int .i64 e.unt) (.int .i64 e.idx) (.string e.tag) (.string t)
  have t2 := fun tm ht => results_cell (fn := Tryd.f17) (t := 8) (tmps := tm) (ty := 28) rfl ht t1 Tryd.underlying28 A_nineW
  refine bodyPost_ret (t2 _ ?_) rfl ?_
  · rfl
  exact ⟨rfl, below_put9 (below_setH hb1 _ _ (by omega) _) (w.heap.size + 1 + 1) (by omega) _ _ _ _ _ _ _ _ _⟩
set_option maxRecDepth 8000 in
set_option maxHeartbeats 1600000 in
theorem helChecks (k : List UInt8) (x : Helo) (ok : x.Ok) (hg : x.entry.tag.size ≤ 140737488351232) (hl : k.length ≤ 1048576) (c : Bool) (HC : Hid (c = checksF k x)) (w : World) (hK : Kt w) :
    Calls Tryd.prog 20 #[.string (bs k), x.val] w fun r w' => r = .returned (.bool c) ∧ Below w.heap.size w w' := by
  have hA := (Below.refl w.heap.size w).alloc (Nat.le_refl _) (.cells x.arr 26)
  have hS : Below w.heap.size w (w.alloc (.cells x.arr 26)).drew := hA.trans (Below.quiet ⟨1, rfl⟩)
  have hv0 := (Var.made w x.arr 26 (n := w.heap.size) rfl).drew
  have hKv := hK.below hS (Nat.le_refl _)
  go_enter Tryd.func20, Tryd.ntmps20
  go_wp2_with fail
  refine wp_region_schT (Keep (fun _ => True)) (Keep.refl (fun _ => True)) (fun _ _ _ h k => h.trans k) (.pure 0 (.pure 1 (.pure 2 (.pure 3 (.one 4 (.pure 5 (.pure 6 .done))))))) (by kernel_rfl) (by kernel_rfl) (fun _ _ d _ _ h => by cases d <;> exact h) ?_
  generalize (w.alloc (.cells x.arr 26)).drew = v0 at *
  have al := (hv0).lt
  have a0 : ∀ w', Keep (fun _ => True) v0 w' → w'.cell? ⟨w.heap.size, 0, none⟩ = some (.string (x).to) := fun w' k => ((hv0).keep k (by first | trivial | exact al | omega | (show _ < _; omega))).cell 0
  have a1 : ∀ w', Keep (fun _ => True) v0 w' → w'.cell? ⟨w.heap.size, 1, none⟩ = some (.int .u64 (x).nonce) := fun w' k => ((hv0).keep k (by first | trivial | exact al | omega | (show _ < _; omega))).cell 1
  have a2 : ∀ w', Keep (fun _ => True) v0 w' → w'.cell? ⟨w.heap.size, 2, none⟩ = some (.string (x).entry.name) := fun w' k => ((hv0).keep k (by first | trivial | exact al | omega | (show _ < _; omega))).cell 2
  have a3 : ∀ w', Keep (fun _ => True) v0 w' → w'.cell? ⟨w.heap.size, 3, none⟩ = some (.int .u64 (x).entry.id) := fun w' k => ((hv0).keep k (by first | trivial | exact al | omega | (show _ < _; omega))).cell 3
  have a4 : ∀ w', Keep (fun _ => True) v0 w' → w'.cell? ⟨w.heap.size, 4, none⟩ = some (.int .i64 (x).entry.frm) := fun w' k => ((hv0).keep k (by first | trivial | exact al | omega | (show _ < _; omega))).cell 4
  have a5 : ∀ w', Keep (fun _ => True) v0 w' → w'.cell? ⟨w.heap.size, 5, none⟩ = some (.int .i64 (x).entry.unt) := fun w' k => ((hv0).keep k (by first | trivial | exact al | omega | (show _ < _; omega))).cell 5
  have a6 : ∀ w', Keep (fun _ => True) v0 w' → w'.cell? ⟨w.heap.size, 6, none⟩ = some (.int .i64 (x).entry.idx) := fun w' k => ((hv0).keep k (by first | trivial | exact al | omega | (show _ < _; omega))).cell 6
  have a7 : ∀ w', Keep (fun _ => True) v0 w' → w'.cell? ⟨w.heap.size, 7, none⟩ = some (.string (x).entry.tag) := fun w' k => ((hv0).keep k (by first | trivial | exact al | omega | (show _ < _; omega))).cell 7
  have a8 : ∀ w', Keep (fun _ => True) v0 w' → w'.cell? ⟨w.heap.size, 8, none⟩ = some (.string (x).tag) := fun w' k => ((hv0).keep k (by first | trivial | exact al | omega | (show _ < _; omega))).cell 8
  repeat (first
  | (refine schT_pure (v := ?_) rfl (by first | exact wanted_none rfl | exact wanted_some rfl rfl rfl rfl) ?_ ?_; rotate_left 1; (focus (intro w' hw'; go_simp; (try with_reducible rfl); done)); (try simp only [Act.put, List.setIfInBounds_toArray, List.set_cons_zero, List.set_cons_succ]))
  | (refine schT_skip rfl (by first | exact wanted_not rfl rfl rfl rfl | exact wanted_undef rfl rfl rfl rfl) ?_; (try simp only [Act.put, List.setIfInBounds_toArray, List.set_cons_zero, List.set_cons_succ])))
  refine schT_one ?_
  refine grR_call rfl (by first | exact wanted_none rfl | exact wanted_some rfl rfl rfl rfl) (fun K hK => ?_)
  go_simp
  go_at_call 74
  (with_reducible refine (helTagH k x ok hg hl _ hKv).mono ?_)
  rintro r v1 ⟨rfl, hB1⟩
  have hse := str_eq x.tag (bs (tagH k x.to x.nonce x.entry))
  rw [show decide (x.tag = bs (tagH k x.to x.nonce x.entry)) = c from HC.out.symm] at hse
  refine hK _ _ (Keep.below hB1) ?_
  clear hK K a0 a1 a2 a3 a4 a5 a6 a7 a8
  (try simp only [Act.put, List.setIfInBounds_toArray, List.set_cons_zero, List.set_cons_succ])
  repeat (first
  | (refine schT_pure (v := ?_) rfl (by first | exact wanted_none rfl | exact wanted_some rfl rfl rfl rfl) ?_ ?_; rotate_left 1; (focus (intro w' hw'; go_simp; (try with_reducible rfl); done)); (try simp only [Act.put, List.setIfInBounds_toArray, List.set_cons_zero, List.set_cons_succ]))
  | (refine schT_skip rfl (by first | exact wanted_not rfl rfl rfl rfl | exact wanted_undef rfl rfl rfl rfl) ?_; (try simp only [Act.put, List.setIfInBounds_toArray, List.set_cons_zero, List.set_cons_succ])))
  refine schT_done ?_
  go_wp2
  go_ret
  exact ⟨rfl, hS.trans (hB1.mono hS.size)⟩
set_option maxRecDepth 8000 in
set_option maxHeartbeats 1600000 in
theorem helAgrees (k : List UInt8) (x : Welc) (e : Entry) (ok : x.Ok) (oke : e.Ok) (hg : x.entry.tag.size ≤ 140737488351232) (hge : e.tag.size ≤ 140737488351232) (hl : k.length ≤ 1048576) (c : Bool) (HC : Hid (c = agreesF k x e)) (w : World) (hK : Kt w) :
    Calls Tryd.prog 22 #[.string (bs k), x.val, e.val] w fun r w' => r = .returned (.bool c) ∧ Below w.heap.size w w' := by
  have hA0 := (Below.refl w.heap.size w).alloc (Nat.le_refl _) (.cells x.arr 28)
  have hA := hA0.alloc hA0.size (.cells e.arr 24)
  have hS : Below w.heap.size w ((w.alloc (.cells x.arr 28)).alloc (.cells e.arr 24)).drew := hA.trans (Below.quiet ⟨1, rfl⟩)
  have hv0 := ((Var.made w x.arr 28 (n := w.heap.size) rfl).alloc (.cells e.arr 24)).drew
  have he0 := (Var.made (w.alloc (.cells x.arr 28)) e.arr 24 (n := w.heap.size + 1) (by simp)).drew
  have hKv := hK.below hS (Nat.le_refl _)
  go_enter Tryd.func22, Tryd.ntmps22
  go_wp2_with fail
  refine wp_region_schT (Keep (fun _ => True)) (Keep.refl (fun _ => True)) (fun _ _ _ h k => h.trans k) (.pure 0 (.pure 1 (.pure 2 (.pure 3 (.pure 4 (.one 5 (.pure 6 (.pure 7 .done)))))))) (by kernel_rfl) (by kernel_rfl) (fun _ _ d _ _ h => by cases d <;> exact h) ?_
  generalize ((w.alloc (.cells x.arr 28)).alloc (.cells e.arr 24)).drew = v0 at *
  have al := (hv0).lt
  have a0 : ∀ w', Keep (fun _ => True) v0 w' → w'.cell? ⟨w.heap.size, 0, none⟩ = some (.int .u64 (x).one) := fun w' k => ((hv0).keep k (by first | trivial | exact al | omega | (show _ < _; omega))).cell 0
  have a1 : ∀ w', Keep (fun _ => True) v0 w' → w'.cell? ⟨w.heap.size, 1, none⟩ = some (.int .u64 (x).two) := fun w' k => ((hv0).keep k (by first | trivial | exact al | omega | (show _ < _; omega))).cell 1
  have a2 : ∀ w', Keep (fun _ => True) v0 w' → w'.cell? ⟨w.heap.size, 2, none⟩ = some (.string (x).entry.name) := fun w' k => ((hv0).keep k (by first | trivial | exact al | omega | (show _ < _; omega))).cell 2
  have a3 : ∀ w', Keep (fun _ => True) v0 w' → w'.cell? ⟨w.heap.size, 3, none⟩ = some (.int .u64 (x).entry.id) := fun w' k => ((hv0).keep k (by first | trivial | exact al | omega | (show _ < _; omega))).cell 3
  have a4 : ∀ w', Keep (fun _ => True) v0 w' → w'.cell? ⟨w.heap.size, 4, none⟩ = some (.int .i64 (x).entry.frm) := fun w' k => ((hv0).keep k (by first | trivial | exact al | omega | (show _ < _; omega))).cell 4
  have a5 : ∀ w', Keep (fun _ => True) v0 w' → w'.cell? ⟨w.heap.size, 5, none⟩ = some (.int .i64 (x).entry.unt) := fun w' k => ((hv0).keep k (by first | trivial | exact al | omega | (show _ < _; omega))).cell 5
  have a6 : ∀ w', Keep (fun _ => True) v0 w' → w'.cell? ⟨w.heap.size, 6, none⟩ = some (.int .i64 (x).entry.idx) := fun w' k => ((hv0).keep k (by first | trivial | exact al | omega | (show _ < _; omega))).cell 6
  have a7 : ∀ w', Keep (fun _ => True) v0 w' → w'.cell? ⟨w.heap.size, 7, none⟩ = some (.string (x).entry.tag) := fun w' k => ((hv0).keep k (by first | trivial | exact al | omega | (show _ < _; omega))).cell 7
  have a8 : ∀ w', Keep (fun _ => True) v0 w' → w'.cell? ⟨w.heap.size, 8, none⟩ = some (.string (x).tag) := fun w' k => ((hv0).keep k (by first | trivial | exact al | omega | (show _ < _; omega))).cell 8
  have b0 : ∀ w', Keep (fun _ => True) v0 w' → w'.cell? ⟨w.heap.size + 1, 0, none⟩ = some (.string e.name) := fun w' k => (he0.keep k trivial).cell 0
  have b1 : ∀ w', Keep (fun _ => True) v0 w' → w'.cell? ⟨w.heap.size + 1, 1, none⟩ = some (.int .u64 e.id) := fun w' k => (he0.keep k trivial).cell 1
  have b2 : ∀ w', Keep (fun _ => True) v0 w' → w'.cell? ⟨w.heap.size + 1, 2, none⟩ = some (.int .i64 e.frm) := fun w' k => (he0.keep k trivial).cell 2
  have b3 : ∀ w', Keep (fun _ => True) v0 w' → w'.cell? ⟨w.heap.size + 1, 3, none⟩ = some (.int .i64 e.unt) := fun w' k => (he0.keep k trivial).cell 3
  have b4 : ∀ w', Keep (fun _ => True) v0 w' → w'.cell? ⟨w.heap.size + 1, 4, none⟩ = some (.int .i64 e.idx) := fun w' k => (he0.keep k trivial).cell 4
  have b5 : ∀ w', Keep (fun _ => True) v0 w' → w'.cell? ⟨w.heap.size + 1, 5, none⟩ = some (.string e.tag) := fun w' k => (he0.keep k trivial).cell 5
  repeat (first
  | (refine schT_pure (v := ?_) rfl (by first | exact wanted_none rfl | exact wanted_some rfl rfl rfl rfl) ?_ ?_; rotate_left 1; (focus (intro w' hw'; go_simp; (try with_reducible rfl); done)); (try simp only [Act.put, List.setIfInBounds_toArray, List.set_cons_zero, List.set_cons_succ]))
  | (refine schT_skip rfl (by first | exact wanted_not rfl rfl rfl rfl | exact wanted_undef rfl rfl rfl rfl) ?_; (try simp only [Act.put, List.setIfInBounds_toArray, List.set_cons_zero, List.set_cons_succ])))
  refine schT_one ?_
  refine grR_call rfl (by first | exact wanted_none rfl | exact wanted_some rfl rfl rfl rfl) (fun K hK => ?_)
  go_simp
  go_at_call 75
  (with_reducible refine (helTagW k x e ok oke hg hge hl _ hKv).mono ?_)
  rintro r v1 ⟨rfl, hB1⟩
  have hse := str_eq x.tag (bs (tagW k x.one x.two e x.entry))
  rw [show decide (x.tag = bs (tagW k x.one x.two e x.entry)) = c from HC.out.symm] at hse
  refine hK _ _ (Keep.below hB1) ?_
  clear hK K a0 a1 a2 a3 a4 a5 a6 a7 a8 b0 b1 b2 b3 b4 b5
  (try simp only [Act.put, List.setIfInBounds_toArray, List.set_cons_zero, List.set_cons_succ])
  repeat (first
  | (refine schT_pure (v := ?_) rfl (by first | exact wanted_none rfl | exact wanted_some rfl rfl rfl rfl) ?_ ?_; rotate_left 1; (focus (intro w' hw'; go_simp; (try with_reducible rfl); done)); (try simp only [Act.put, List.setIfInBounds_toArray, List.set_cons_zero, List.set_cons_succ]))
  | (refine schT_skip rfl (by first | exact wanted_not rfl rfl rfl rfl | exact wanted_undef rfl rfl rfl rfl) ?_; (try simp only [Act.put, List.setIfInBounds_toArray, List.set_cons_zero, List.set_cons_succ])))
  refine schT_done ?_
  go_wp2
  go_ret
  exact ⟨rfl, hS.trans (hB1.mono hS.size)⟩
end Go.Proofs.YtdajfggehffooaaDoor
end
section
set_option linter.unusedSimpArgs false
set_option linter.unusedVariables false

namespace Go.Proofs.YtdajfggehffooaaDoor
open Go.RowKit

theorem eqHelo_in (a b : Helo) (w : World) : (Op.equalIn 10000 26 (.agg a.arr) (.agg b.arr)).run Tryd.prog w = .ok (decide (a = b)) w := by
  go_simp
  by_cases h : a = b
  · subst h; simp
  · rw [decide_eq_false h]
    repeat' split
    all_goals first | rfl | skip
    rename_i h1 h2 h3 h4 h5 h6 h7 h8 h9
    exact absurd (by cases a; rename_i ea _; cases ea; cases b; rename_i eb _; cases eb; simp only [Helo.mk.injEq, Entry.mk.injEq]; first | exact ⟨toList_inj h1, h2, ⟨toList_inj h3, h4, h5, h6, h7, toList_inj h8⟩, toList_inj h9⟩ | exact ⟨h1, h2, ⟨toList_inj h3, h4, h5, h6, h7, toList_inj h8⟩, toList_inj h9⟩) h
theorem eqHelo (a b : Helo) (w : World) : (binOp .eql 26 (.agg a.arr) (.agg b.arr)).run Tryd.prog w = .ok (.bool (decide (a = b))) w := by
  rw [run_eql_struct, eqHelo_in]; rfl
theorem neqHelo (a b : Helo) (w : World) : (binOp .neq 26 (.agg a.arr) (.agg b.arr)).run Tryd.prog w = .ok (.bool (!decide (a = b))) w := by
  rw [run_neq_struct, eqHelo_in]; rfl
theorem eqHeloR_in (a b : Helo) (w : World) : (Op.equalIn 10000 34 (.agg a.arr) (.agg b.arr)).run Tryd.prog w = .ok (decide (a = b)) w := by
  go_simp
  by_cases h : a = b
  · subst h; simp
  · rw [decide_eq_false h]
    repeat' split
    all_goals first | rfl | skip
    rename_i h1 h2 h3 h4 h5 h6 h7 h8 h9
    exact absurd (by cases a; rename_i ea _; cases ea; cases b; rename_i eb _; cases eb; simp only [Helo.mk.injEq, Entry.mk.injEq]; first | exact ⟨toList_inj h1, h2, ⟨toList_inj h3, h4, h5, h6, h7, toList_inj h8⟩, toList_inj h9⟩ | exact ⟨h1, h2, ⟨toList_inj h3, h4, h5, h6, h7, toList_inj h8⟩, toList_inj h9⟩) h
theorem eqHeloR (a b : Helo) (w : World) : (binOp .eql 34 (.agg a.arr) (.agg b.arr)).run Tryd.prog w = .ok (.bool (decide (a = b))) w := by
  rw [run_eql_struct, eqHeloR_in]; rfl
theorem neqHeloR (a b : Helo) (w : World) : (binOp .neq 34 (.agg a.arr) (.agg b.arr)).run Tryd.prog w = .ok (.bool (!decide (a = b))) w := by
  rw [run_neq_struct, eqHeloR_in]; rfl
theorem eqWelc_in (a b : Welc) (w : World) : (Op.equalIn 10000 28 (.agg a.arr) (.agg b.arr)).run Tryd.prog w = .ok (decide (a = b)) w := by
  go_simp
  by_cases h : a = b
  · subst h; simp
  · rw [decide_eq_false h]
    repeat' split
    all_goals first | rfl | skip
    rename_i h1 h2 h3 h4 h5 h6 h7 h8 h9
    exact absurd (by cases a; rename_i ea _; cases ea; cases b; rename_i eb _; cases eb; simp only [Welc.mk.injEq, Entry.mk.injEq]; first | exact ⟨toList_inj h1, h2, ⟨toList_inj h3, h4, h5, h6, h7, toList_inj h8⟩, toList_inj h9⟩ | exact ⟨h1, h2, ⟨toList_inj h3, h4, h5, h6, h7, toList_inj h8⟩, toList_inj h9⟩) h
theorem eqWelc (a b : Welc) (w : World) : (binOp .eql 28 (.agg a.arr) (.agg b.arr)).run Tryd.prog w = .ok (.bool (decide (a = b))) w := by
  rw [run_eql_struct, eqWelc_in]; rfl
theorem neqWelc (a b : Welc) (w : World) : (binOp .neq 28 (.agg a.arr) (.agg b.arr)).run Tryd.prog w = .ok (.bool (!decide (a = b))) w := by
  rw [run_neq_struct, eqWelc_in]; rfl
theorem eqWelcR_in (a b : Welc) (w : World) : (Op.equalIn 10000 36 (.agg a.arr) (.agg b.arr)).run Tryd.prog w = .ok (decide (a = b)) w := by
  go_simp
  by_cases h : a = b
  · subst h; simp
  · rw [decide_eq_false h]
    repeat' split
    all_goals first | rfl | skip
    rename_i h1 h2 h3 h4 h5 h6 h7 h8 h9
    exact absurd (by cases a; rename_i ea _; cases ea; cases b; rename_i eb _; cases eb; simp only [Welc.mk.injEq, Entry.mk.injEq]; first | exact ⟨toList_inj h1, h2, ⟨toList_inj h3, h4, h5, h6, h7, toList_inj h8⟩, toList_inj h9⟩ | exact ⟨h1, h2, ⟨toList_inj h3, h4, h5, h6, h7, toList_inj h8⟩, toList_inj h9⟩) h
theorem eqWelcR (a b : Welc) (w : World) : (binOp .eql 36 (.agg a.arr) (.agg b.arr)).run Tryd.prog w = .ok (.bool (decide (a = b))) w := by
  rw [run_eql_struct, eqWelcR_in]; rfl
theorem neqWelcR (a b : Welc) (w : World) : (binOp .neq 36 (.agg a.arr) (.agg b.arr)).run Tryd.prog w = .ok (.bool (!decide (a = b))) w := by
  rw [run_neq_struct, eqWelcR_in]; rfl
theorem A_nineHR : (Tryd.prog.info? 34).map (·.size) = some 9 := by kernel_rfl
theorem A_nineWR : (Tryd.prog.info? 36).map (·.size) = some 9 := by kernel_rfl
set_option maxHeartbeats 1600000 in
theorem refKind (S : Sl) (l : List UInt8) (w : World) (h : Rd rowU8 w S l) : Calls Tryd.prog 38 #[.slice S.p l.length S.c] w fun r w' => r = .returned (.int .i64 (kindF l)) ∧ w = w' := by
  cases l with
  | nil =>
    go_enter Tryd.func38, Tryd.ntmps38
    go_wp2
    go_ret
    exact ⟨rfl, rfl⟩
  | cons c l =>
    obtain ⟨n, hn⟩ : ∃ n, (c :: l).length = n := ⟨_, rfl⟩
    have hlen : (n : Int) = (l.length : Int) + 1 := by rw [← hn]; simp <;> omega
    have m0 : ((n : Int) == 0) = false := by rw [hlen]; simp <;> omega
    have m0' : decide (0 < (n : Int)) = true := by rw [hlen]; simp <;> omega
    have m0n : decide (0 < n) = true := by simp only [decide_eq_true_eq]; omega
    have hc := byte_lt c
    have cw : IntKind.i64.wrap (c.toNat : Int) = (c.toNat : Int) := IntWalk.i64_in _ (by omega)
    have HK : Hid (kindF (c :: l) = if 1 ≤ c.toNat ∧ c.toNat ≤ 4 then (c.toNat : Int) else 0) := rfl
    obtain ⟨ix, cc⟩ := kind_ix h hn
    rw [hn]
    clear hn hlen
    by_cases h1 : c.toNat < 1
    · have m1 : decide (1 ≤ (c.toNat : Int)) = false := by simp <;> omega
      go_enter Tryd.func38, Tryd.ntmps38
      go_wp2
      go_ret
      exact ⟨by rw [HK.out, if_neg (by omega)]; rfl, rfl⟩
    · have m1 : decide (1 ≤ (c.toNat : Int)) = true := by simp <;> omega
      by_cases h4 : 4 < c.toNat
      · have m2 : decide ((c.toNat : Int) ≤ 4) = false := by simp <;> omega
        go_enter Tryd.func38, Tryd.ntmps38
        go_wp2
        go_ret
        exact ⟨by rw [HK.out, if_neg (by omega)]; rfl, rfl⟩
      · have m2 : decide ((c.toNat : Int) ≤ 4) = true := by simp <;> omega
        go_enter Tryd.func38, Tryd.ntmps38
        go_wp2
        go_ret
        exact ⟨by rw [HK.out, if_pos (by omega)]; rfl, rfl⟩
set_option maxHeartbeats 800000 in
theorem refTextE (S : Sl) (xs : List UInt8) (e : Entry) (ok : e.Ok) (hg : e.tag.size ≤ 1000) (w : World) (h : Rd rowU8 w S xs) (hl : xs.length ≤ 1000000000) :
    Calls Tryd.prog 78 #[.slice S.p xs.length S.c, e.val] w fun r w' => ∃ S' zs, r = .returned (.slice S'.p zs.length S'.c) ∧ Hid (zs = xs ++ putText e.bytes) ∧ Own rowU8 w' w.heap.size S' zs ∧ Below w.heap.size w w' := by
  have hA := (Below.refl w.heap.size w).alloc (Nat.le_refl _) (.cells e.arr 24)
  have h0 := h.alloc (.cells e.arr 24)
  have hv0 := Var.made w e.arr 24 (n := w.heap.size) rfl
  obtain ⟨_, x0, x1, x2, x3, x4, x5⟩ := hv0.entry
  go_enter Tryd.func78, Tryd.ntmps78
  go_wp2_with (first
    | (go_at_call 115; (with_reducible refine (refBytes e ok hg _).mono ?_); rintro r w1 ⟨S1, z1, rfl, HZ1, hown1, hb1'⟩; have hb1 := hA.trans (hb1'.mono hA.size); have h1 := h0.below hb1' (Nat.le_refl _); have cv := convF hown1.rd _ (Below.refl _ _); have hsz1 : (bs z1).size ≤ 9223372036854775807 := (by rw [bs_size]; exact hown1.len); have hs1 := hb1.size)
    | (go_at_call 76; (with_reducible refine (refText S xs (bs z1) _ h1 (by omega) hsz1).mono ?_); rintro r w2 ⟨S2, z2, rfl, HZ2, hown2, hb2⟩))
  go_ret
  exact ⟨S2, z2, rfl, by unfold Hid; rw [HZ2.out, toList_bs, HZ1.out], hown2.lower hs1, hb1.trans (hb2.mono hs1)⟩
theorem litR_text (l : List UInt8) (c : Array Value) (n : Nat) (fr : Nat × Nat) (hfr : Free fr n) (hn : l.length = n) (hc : c.toList = flat rowU8 l) (hl : n ≤ 1000) (b : Nat) (v : World) (hb : v.heap.size = b) (s : ByteArray) (hs : s.size ≤ 9223372036854775807) :
    Calls Tryd.prog 76 #[.slice (some ⟨b, 0, none⟩) n n, .string s] (v.alloc (.cells c 5 fr)) fun r w' => ∃ S zs, r = .returned (.slice S.p zs.length S.c) ∧ Hid (zs = l ++ putText s.data.toList) ∧ Rd rowU8 w' S zs ∧ Below b v w' := by
  have o := lit_own l c n fr hfr hn hc hl b v hb
  subst hb hn
  exact (refText ⟨some ⟨v.heap.size, 0, none⟩, l.length, v.heap.size, 0⟩ l s _ o.rd (by omega) hs).mono fun r w' ⟨S, zs, hr, hz, ho, he⟩ => ⟨S, zs, hr, hz, ho.rd, ((Below.refl _ _).alloc (Nat.le_refl _) _).trans (he.mono (by simp))⟩
theorem litR_num (l : List UInt8) (c : Array Value) (n : Nat) (fr : Nat × Nat) (hfr : Free fr n) (hn : l.length = n) (hc : c.toList = flat rowU8 l) (hl : n ≤ 1000) (b : Nat) (v : World) (hb : v.heap.size = b) (m k : Int) (hm : U64 m) :
    Calls Tryd.prog 77 #[.slice (some ⟨b, 0, none⟩) n n, .int .u64 m, .int .i64 k] (v.alloc (.cells c 5 fr)) fun r w' => ∃ S zs, r = .returned (.slice S.p zs.length S.c) ∧ Hid (zs = l ++ putNum m k) ∧ Rd rowU8 w' S zs ∧ Below b v w' := by
  have o := lit_own l c n fr hfr hn hc hl b v hb
  subst hb hn
  exact (refNum ⟨some ⟨v.heap.size, 0, none⟩, l.length, v.heap.size, 0⟩ l m k hm _ o.rd (by omega)).mono fun r w' ⟨S, zs, hr, hz, ho, he⟩ => ⟨S, zs, hr, hz, ho.1, ((Below.refl _ _).alloc (Nat.le_refl _) _).trans (he.mono (by simp))⟩
theorem refNum8 (S : Sl) (xs : List UInt8) (n : Int) (hn : U64 n) (w : World) (h : Rd rowU8 w S xs) (hl : xs.length ≤ 1073741000) :
    Calls Tryd.prog 77 #[.slice S.p xs.length S.c, .int .u64 n, .int .i64 8] w fun e w' => ∃ S' zs, e = .returned (.slice S'.p zs.length S'.c) ∧ Hid (zs = xs ++ putNum n 8) ∧ Rd rowU8 w' S' zs ∧ Below w.heap.size w w' :=
  (refNum S xs n 8 hn w h hl).mono fun e w' ⟨S', zs, he, hz, ho, hb⟩ => ⟨S', zs, he, hz, ho.1, hb⟩
theorem grown9 (w : World) (b : Nat) (a0 a1 a2 a3 a4 a5 a6 a7 a8 : Value) : w.grownBy (World.put9 w b a0 a1 a2 a3 a4 a5 a6 a7 a8) (some b) :=
  have h2 {a b c : World} {g : Nat} (h : a.grownBy b (some g)) (k : b.grownBy c (some g)) : a.grownBy c (some g) := grownBy_trans h k (.inl rfl)
  h2 (h2 (h2 (h2 (h2 (h2 (h2 (h2 (grownBy_setCell _ _ _ _) (grownBy_setCell _ _ _ _)) (grownBy_setCell _ _ _ _)) (grownBy_setCell _ _ _ _)) (grownBy_setCell _ _ _ _)) (grownBy_setCell _ _ _ _)) (grownBy_setCell _ _ _ _)) (grownBy_setCell _ _ _ _)) (grownBy_setCell _ _ _ _)
end Go.Proofs.YtdajfggehffooaaDoor
end
section
set_option linter.unusedSimpArgs false
set_option linter.unusedVariables false

namespace Go.Proofs.YtdajfggehffooaaDoor
open Go.RowKit

set_option maxRecDepth 8000 in
set_option maxHeartbeats 3200000 in
theorem refGreet (k : List UInt8) (to : ByteArray) (nonce : Int) (e : Entry) (hto : to.size ≤ 9223372036854775807) (hn : U64 nonce) (ok : e.Ok) (hg : e.tag.size ≤ 1000) (hl : k.length ≤ 1048576) (w : World) :
    Calls Tryd.prog 18 #[.string (bs k), .string to, .int .u64 nonce, e.val] w fun r w' => r = .returned (greetF k to nonce e).val ∧ Below w.heap.size w w' := by
  have hA := (Below.refl w.heap.size w).alloc (Nat.le_refl _) (.cells e.arr 24)
  have hB := hA.alloc hA.size (.cells Helo.zero.arr 34)
  have he0 := (Var.made w e.arr 24 (n := w.heap.size) rfl).alloc (.cells Helo.zero.arr 34)
  have hz0 := Var.made (w.alloc (.cells e.arr 24)) Helo.zero.arr 34 (n := w.heap.size + 1) (by simp)
  have hsz : ((w.alloc (.cells e.arr 24)).alloc (.cells Helo.zero.arr 34)).heap.size = w.heap.size + 1 + 1 := by simp
  have hsk : (bs k).size ≤ 9223372036854775807 := by rw [bs_size]; omega
  have hT := litR_text titleH titleHC 14 (14, 15) (free_end 14) rfl rfl (by decide) _ _ hsz to hto
  have hcv := lit_conv titleHC 14 rfl _ _ hsz
  dsimp only [titleHC] at hcv hT
  go_enter Tryd.func18, Tryd.ntmps18
  go_wp2_with (first
    | (go_at_call 76; (with_reducible refine hT.mono ?_); rintro r w1 ⟨S1, z1, rfl, HZ1, hr1, hb1'⟩; have hb1 := hB.trans (hb1'.mono (by omega)); have he1 := he0.below hb1' (by omega); have hz1 := hz0.below hb1' (by omega); have hl1 : z1.length ≤ 70000 := (by rw [HZ1.out, List.length_append]; have := putText_length to.data.toList; simp [titleH]; omega))
    | (go_at_call 77; (with_reducible refine (refNum8 S1 z1 nonce hn _ hr1 (by omega)).mono ?_); rintro r w2 ⟨S2, z2, rfl, HZ2, hr2, hb2'⟩; have hb2 := below_next hb1 hb2'; have he2 := he1.below hb2' he1.lt; have hz2 := hz1.below hb2' hz1.lt; have hl2 : z2.length ≤ 80000 := (by rw [HZ2.out, List.length_append]; have := putNum_length nonce 8; omega); obtain ⟨_, c0, c1, c2, c3, c4, c5⟩ := he2.entry)
    | (go_at_call 78; (with_reducible refine (refTextE S2 z2 e ok hg _ hr2 (by omega)).mono ?_); rintro r w3 ⟨S3, z3, rfl, HZ3, hown3, hb3'⟩; have hb3 : Below w.heap.size w w3.drew := (below_next hb2 hb3').trans (Below.quiet ⟨1, rfl⟩); have he3 := (he2.below hb3' he2.lt).drew; have hz3 := (hz2.below hb3' hz2.lt).drew; have hr3 := hown3.rd.drew; have hl3 : z3.length ≤ 200000 := (by rw [HZ3.out, List.length_append]; have := putText_length e.bytes; omega)))
  refine wp_region_schT (Keep (fun k => k < w.heap.size + 1)) (Keep.refl (fun k => k < w.heap.size + 1)) (fun _ _ _ h k => h.trans k) (.pure 0 (.pure 1 (.pure 2 (.pure 3 (.pure 5 (.one 4 (.one 6 (.one 7 (.pure 8 (.one 9 .done)))))))))) (by kernel_rfl) (by kernel_rfl) (fun _ _ d _ _ h => by cases d <;> exact h) ?_
  generalize w3.drew = v3 at *
  have b0 : ∀ w', Keep (fun k => k < w.heap.size + 1) v3 w' → w'.cell? ⟨w.heap.size, 0, none⟩ = some (.string (e).name) := fun w' k => ((he3).keep k (by first | trivial | omega | (show _ < _; omega))).cell 0
  have b1 : ∀ w', Keep (fun k => k < w.heap.size + 1) v3 w' → w'.cell? ⟨w.heap.size, 1, none⟩ = some (.int .u64 (e).id) := fun w' k => ((he3).keep k (by first | trivial | omega | (show _ < _; omega))).cell 1
  have b2 : ∀ w', Keep (fun k => k < w.heap.size + 1) v3 w' → w'.cell? ⟨w.heap.size, 2, none⟩ = some (.int .i64 (e).frm) := fun w' k => ((he3).keep k (by first | trivial | omega | (show _ < _; omega))).cell 2
  have b3 : ∀ w', Keep (fun k => k < w.heap.size + 1) v3 w' → w'.cell? ⟨w.heap.size, 3, none⟩ = some (.int .i64 (e).unt) := fun w' k => ((he3).keep k (by first | trivial | omega | (show _ < _; omega))).cell 3
  have b4 : ∀ w', Keep (fun k => k < w.heap.size + 1) v3 w' → w'.cell? ⟨w.heap.size, 4, none⟩ = some (.int .i64 (e).idx) := fun w' k => ((he3).keep k (by first | trivial | omega | (show _ < _; omega))).cell 4
  have b5 : ∀ w', Keep (fun k => k < w.heap.size + 1) v3 w' → w'.cell? ⟨w.heap.size, 5, none⟩ = some (.string (e).tag) := fun w' k => ((he3).keep k (by first | trivial | omega | (show _ < _; omega))).cell 5
  repeat (first
  | (refine schT_pure (v := ?_) rfl (by first | exact wanted_none rfl | exact wanted_some rfl rfl rfl rfl) ?_ ?_; rotate_left 1; (focus (intro w' hw'; go_simp; (try with_reducible rfl); done)); (try simp only [Act.put, List.setIfInBounds_toArray, List.set_cons_zero, List.set_cons_succ]))
  | (refine schT_skip rfl (by first | exact wanted_not rfl rfl rfl rfl | exact wanted_undef rfl rfl rfl rfl) ?_; (try simp only [Act.put, List.setIfInBounds_toArray, List.set_cons_zero, List.set_cons_succ])))
  clear b0 b1 b2 b3 b4 b5
  refine schT_one ?_
  refine grR_bytes (fun x y h => Keep.below h) (x := .tmp 23) rfl (by first | exact wanted_none rfl | exact wanted_some rfl rfl rfl rfl) rfl rfl hsk Tryd.underlying9 Tryd.underlying42 Tryd.underlying5 ?_
  intro Sk wk zk HZk ownk hbk
  have hzk : zk.length ≤ 1048576 := by rw [HZk.out, toList_bs]; exact hl
  have rk := ownk.rd
  have hrk := (hr3).below hbk (Nat.le_refl _)
  have hzz := (hz3).below hbk (hz3).lt
  have hb4t := below_next hb3 hbk
  (try simp only [Act.put, List.setIfInBounds_toArray, List.set_cons_zero, List.set_cons_succ])
  refine schT_one ?_
  refine grR_call rfl (by first | exact wanted_none rfl | exact wanted_some rfl rfl rfl rfl) (fun K hK => ?_)
  go_simp
  go_at_call 79
  (with_reducible refine (refMac Sk S3 zk z3 _ rk hrk hzk (by omega)).mono ?_)
  rintro r v5 ⟨S5, z5, rfl, HZ5, own5, hb5⟩
  have hz5 := hzz.below hb5 hzz.lt
  have hb5t := below_next hb4t hb5
  have cv5 := convF own5.rd _ (Below.refl _ _)
  refine hK _ _ (Keep.below hb5) ?_
  clear hK K
  (try simp only [Act.put, List.setIfInBounds_toArray, List.set_cons_zero, List.set_cons_succ])
  refine schT_one ?_
  refine grR_call rfl (by first | exact wanted_none rfl | exact wanted_some rfl rfl rfl rfl) (fun K hK => ?_)
  go_simp
  clear cv5
  refine hK _ _ (Keep.refl _ _) ?_
  clear hK K
  (try simp only [Act.put, List.setIfInBounds_toArray, List.set_cons_zero, List.set_cons_succ])
  repeat (first
  | (refine schT_pure (v := ?_) rfl (by first | exact wanted_none rfl | exact wanted_some rfl rfl rfl rfl) ?_ ?_; rotate_left 1; (focus (intro w' hw'; go_simp; (try with_reducible rfl); done)); (try simp only [Act.put, List.setIfInBounds_toArray, List.set_cons_zero, List.set_cons_succ]))
  | (refine schT_skip rfl (by first | exact wanted_not rfl rfl rfl rfl | exact wanted_undef rfl rfl rfl rfl) ?_; (try simp only [Act.put, List.setIfInBounds_toArray, List.set_cons_zero, List.set_cons_succ])))
  obtain ⟨_, d0, d1, d2, d3, d4, d5, d6, d7, d8⟩ := hz5.nine
  obtain ⟨g0, g1, g2, g3, g4, g5, g6, g7, g8⟩ := hz5.frees9
  refine schT_one ?_
  refine grR_call rfl (by first | exact wanted_none rfl | exact wanted_some rfl rfl rfl rfl) (fun K hK => ?_)
  go_simp
  refine hK _ _ (Keep.grown (grown9 v5 (w.heap.size + 1) (.string to) (.int .u64 nonce) (.string e.name) (.int .u64 e.id) (.int .i64 e.frm) (.int .i64 e.unt) (.int .i64 e.idx) (.string e.tag) (.string (bs z5))) (fun k hk e => by cases e; omega)) ?_
  clear hK K
  (try simp only [Act.put, List.setIfInBounds_toArray, List.set_cons_zero, List.set_cons_succ])
  refine schT_done ?_
  go_wp2_with fail
  have hsg : greetF k to nonce e = ⟨to, nonce, e, bs z5⟩ := by unfold greetF; rw [HZ5.out, HZk.out, toList_bs, HZ3.out, HZ2.out, HZ1.out]; rfl
  rw [hsg]
  have t1 := hz5.set9 (.string to) (.int .u64 nonce) (.string e.name) (.int .u64 e.id) (.int .i64 e.frm) (.int .i64 e.unt) (.int .i64 e.idx) (.string e.tag) (.string (bs z5))
  have t2 := fun tm ht => results_cell (fn := Tryd.f18) (t := 8) (tmps := tm) (ty := 34) rfl ht t1 Tryd.underlying34 A_nineHR
  refine bodyPost_ret (t2 _ ?_) rfl ?_
  · rfl
  exact ⟨rfl, below_put9 hb5t (w.heap.size + 1) (by omega) _ _ _ _ _ _ _ _ _⟩
set_option maxRecDepth 8000 in
set_option maxHeartbeats 3200000 in
theorem refAnswer (k : List UInt8) (x : Helo) (two : Int) (e : Entry) (okx : x.Ok) (h2 : U64 two) (ok : e.Ok) (hg : e.tag.size ≤ 1000) (hgx : x.entry.tag.size ≤ 1000) (hl : k.length ≤ 1048576) (w : World) :
    Calls Tryd.prog 19 #[.string (bs k), x.val, .int .u64 two, e.val] w fun r w' => r = .returned (answerF k x two e).val ∧ Below w.heap.size w w' := by
  have hA0 := (Below.refl w.heap.size w).alloc (Nat.le_refl _) (.cells x.arr 34)
  have hA := hA0.alloc hA0.size (.cells e.arr 24)
  have hB := hA.alloc hA.size (.cells Welc.zero.arr 36)
  have hx0 := ((Var.made w x.arr 34 (n := w.heap.size) rfl).alloc (.cells e.arr 24)).alloc (.cells Welc.zero.arr 36)
  have he0 := (Var.made (w.alloc (.cells x.arr 34)) e.arr 24 (n := w.heap.size + 1) (by simp)).alloc (.cells Welc.zero.arr 36)
  have hz0 := Var.made ((w.alloc (.cells x.arr 34)).alloc (.cells e.arr 24)) Welc.zero.arr 36 (n := w.heap.size + 1 + 1) (by simp)
  have hsz : (((w.alloc (.cells x.arr 34)).alloc (.cells e.arr 24)).alloc (.cells Welc.zero.arr 36)).heap.size = w.heap.size + 1 + 1 + 1 := by simp
  have hsk : (bs k).size ≤ 9223372036854775807 := by rw [bs_size]; omega
  have hT := litR_num titleW titleWC 16 (16, 17) (free_end 16) rfl rfl (by decide) _ _ hsz x.nonce 8 okx.nonce
  have hcv := lit_conv titleWC 16 rfl _ _ hsz
  dsimp only [titleWC] at hcv hT
  go_enter Tryd.func19, Tryd.ntmps19
  go_wp2_with (first
    | (go_at_call 77; (with_reducible refine hT.mono ?_); rintro r w1 ⟨S1, z1, rfl, HZ1, hr1, hb1'⟩; have hb1 := hB.trans (hb1'.mono (by omega)); have he1 := he0.below hb1' (by omega); have hz1 := hz0.below hb1' (by omega); have hx1 := hx0.below hb1' (by omega); have hl1 : z1.length ≤ 70000 := (by rw [HZ1.out, List.length_append]; have := putNum_length x.nonce 8; simp [titleW]; omega))
    | (go_at_call 77; (with_reducible refine (refNum8 S1 z1 two h2 _ hr1 (by omega)).mono ?_); rintro r w2 ⟨S2, z2, rfl, HZ2, hr2, hb2'⟩; have hb2 := below_next hb1 hb2'; have he2 := he1.below hb2' he1.lt; have hz2 := hz1.below hb2' hz1.lt; have hx2 := hx1.below hb2' hx1.lt; have hl2 : z2.length ≤ 80000 := (by rw [HZ2.out, List.length_append]; have := putNum_length two 8; omega); obtain ⟨_, c0, c1, c2, c3, c4, c5, c6, c7, c8⟩ := hx2.nine)
    | (go_at_call 78; (with_reducible refine (refTextE S2 z2 x.entry okx.entry hgx _ hr2 (by omega)).mono ?_); rintro r w3 ⟨S3, z3, rfl, HZ3, hown3, hb3'⟩; have hb3 := below_next hb2 hb3'; have he3 := he2.below hb3' he2.lt; have hz3 := hz2.below hb3' hz2.lt; have hx3 := hx2.below hb3' hx2.lt; have hr3 := hown3.rd; have hl3 : z3.length ≤ 200000 := (by rw [HZ3.out, List.length_append]; have := putText_length x.entry.bytes; omega); obtain ⟨_, c0, c1, c2, c3, c4, c5⟩ := he3.entry)
    | (go_at_call 78; (with_reducible refine (refTextE S3 z3 e ok hg _ hr3 (by omega)).mono ?_); rintro r w4 ⟨S4, z4, rfl, HZ4, hown4, hb4'⟩; have hb4 : Below w.heap.size w w4.drew := (below_next hb3 hb4').trans (Below.quiet ⟨1, rfl⟩); have he4 := (he3.below hb4' he3.lt).drew; have hx4 := (hx3.below hb4' hx3.lt).drew; have hz4 := (hz3.below hb4' hz3.lt).drew; have hr4 := hown4.rd.drew; have hl4 : z4.length ≤ 300000 := (by rw [HZ4.out, List.length_append]; have := putText_length e.bytes; omega)))
  refine wp_region_schT (Keep (fun k => k < w.heap.size + 2)) (Keep.refl (fun k => k < w.heap.size + 2)) (fun _ _ _ h k => h.trans k) (.pure 0 (.pure 1 (.pure 2 (.pure 3 (.pure 4 (.pure 6 (.one 5 (.one 7 (.one 8 (.pure 9 (.one 10 .done))))))))))) (by kernel_rfl) (by kernel_rfl) (fun _ _ d _ _ h => by cases d <;> exact h) ?_
  generalize w4.drew = v4 at *
  have b0 : ∀ w', Keep (fun k => k < w.heap.size + 2) v4 w' → w'.cell? ⟨w.heap.size + 1, 0, none⟩ = some (.string (e).name) := fun w' k => ((he4).keep k (by first | trivial | omega | (show _ < _; omega))).cell 0
  have b1 : ∀ w', Keep (fun k => k < w.heap.size + 2) v4 w' → w'.cell? ⟨w.heap.size + 1, 1, none⟩ = some (.int .u64 (e).id) := fun w' k => ((he4).keep k (by first | trivial | omega | (show _ < _; omega))).cell 1
  have b2 : ∀ w', Keep (fun k => k < w.heap.size + 2) v4 w' → w'.cell? ⟨w.heap.size + 1, 2, none⟩ = some (.int .i64 (e).frm) := fun w' k => ((he4).keep k (by first | trivial | omega | (show _ < _; omega))).cell 2
  have b3 : ∀ w', Keep (fun k => k < w.heap.size + 2) v4 w' → w'.cell? ⟨w.heap.size + 1, 3, none⟩ = some (.int .i64 (e).unt) := fun w' k => ((he4).keep k (by first | trivial | omega | (show _ < _; omega))).cell 3
  have b4 : ∀ w', Keep (fun k => k < w.heap.size + 2) v4 w' → w'.cell? ⟨w.heap.size + 1, 4, none⟩ = some (.int .i64 (e).idx) := fun w' k => ((he4).keep k (by first | trivial | omega | (show _ < _; omega))).cell 4
  have b5 : ∀ w', Keep (fun k => k < w.heap.size + 2) v4 w' → w'.cell? ⟨w.heap.size + 1, 5, none⟩ = some (.string (e).tag) := fun w' k => ((he4).keep k (by first | trivial | omega | (show _ < _; omega))).cell 5
  have al := (hx4).lt
  have a0 : ∀ w', Keep (fun k => k < w.heap.size + 2) v4 w' → w'.cell? ⟨w.heap.size, 0, none⟩ = some (.string (x).to) := fun w' k => ((hx4).keep k (by first | trivial | exact al | omega | (show _ < _; omega))).cell 0
  have a1 : ∀ w', Keep (fun k => k < w.heap.size + 2) v4 w' → w'.cell? ⟨w.heap.size, 1, none⟩ = some (.int .u64 (x).nonce) := fun w' k => ((hx4).keep k (by first | trivial | exact al | omega | (show _ < _; omega))).cell 1
  have a2 : ∀ w', Keep (fun k => k < w.heap.size + 2) v4 w' → w'.cell? ⟨w.heap.size, 2, none⟩ = some (.string (x).entry.name) := fun w' k => ((hx4).keep k (by first | trivial | exact al | omega | (show _ < _; omega))).cell 2
  have a3 : ∀ w', Keep (fun k => k < w.heap.size + 2) v4 w' → w'.cell? ⟨w.heap.size, 3, none⟩ = some (.int .u64 (x).entry.id) := fun w' k => ((hx4).keep k (by first | trivial | exact al | omega | (show _ < _; omega))).cell 3
  have a4 : ∀ w', Keep (fun k => k < w.heap.size + 2) v4 w' → w'.cell? ⟨w.heap.size, 4, none⟩ = some (.int .i64 (x).entry.frm) := fun w' k => ((hx4).keep k (by first | trivial | exact al | omega | (show _ < _; omega))).cell 4
  have a5 : ∀ w', Keep (fun k => k < w.heap.size + 2) v4 w' → w'.cell? ⟨w.heap.size, 5, none⟩ = some (.int .i64 (x).entry.unt) := fun w' k => ((hx4).keep k (by first | trivial | exact al | omega | (show _ < _; omega))).cell 5
  have a6 : ∀ w', Keep (fun k => k < w.heap.size + 2) v4 w' → w'.cell? ⟨w.heap.size, 6, none⟩ = some (.int .i64 (x).entry.idx) := fun w' k => ((hx4).keep k (by first | trivial | exact al | omega | (show _ < _; omega))).cell 6
  have a7 : ∀ w', Keep (fun k => k < w.heap.size + 2) v4 w' → w'.cell? ⟨w.heap.size, 7, none⟩ = some (.string (x).entry.tag) := fun w' k => ((hx4).keep k (by first | trivial | exact al | omega | (show _ < _; omega))).cell 7
  have a8 : ∀ w', Keep (fun k => k < w.heap.size + 2) v4 w' → w'.cell? ⟨w.heap.size, 8, none⟩ = some (.string (x).tag) := fun w' k => ((hx4).keep k (by first | trivial | exact al | omega | (show _ < _; omega))).cell 8
  repeat (first
  | (refine schT_pure (v := ?_) rfl (by first | exact wanted_none rfl | exact wanted_some rfl rfl rfl rfl) ?_ ?_; rotate_left 1; (focus (intro w' hw'; go_simp; (try with_reducible rfl); done)); (try simp only [Act.put, List.setIfInBounds_toArray, List.set_cons_zero, List.set_cons_succ]))
  | (refine schT_skip rfl (by first | exact wanted_not rfl rfl rfl rfl | exact wanted_undef rfl rfl rfl rfl) ?_; (try simp only [Act.put, List.setIfInBounds_toArray, List.set_cons_zero, List.set_cons_succ])))
  clear b0 b1 b2 b3 b4 b5 a0 a1 a2 a3 a4 a5 a6 a7 a8
  refine schT_one ?_
  refine grR_bytes (fun x y h => Keep.below h) (x := .tmp 29) rfl (by first | exact wanted_none rfl | exact wanted_some rfl rfl rfl rfl) rfl rfl hsk Tryd.underlying9 Tryd.underlying42 Tryd.underlying5 ?_
  intro Sk wk zk HZk ownk hbk
  have hzk : zk.length ≤ 1048576 := by rw [HZk.out, toList_bs]; exact hl
  have rk := ownk.rd
  have hrk := (hr4).below hbk (Nat.le_refl _)
  have hzz := (hz4).below hbk (hz4).lt
  have hb4t := below_next hb4 hbk
  (try simp only [Act.put, List.setIfInBounds_toArray, List.set_cons_zero, List.set_cons_succ])
  refine schT_one ?_
  refine grR_call rfl (by first | exact wanted_none rfl | exact wanted_some rfl rfl rfl rfl) (fun K hK => ?_)
  go_simp
  go_at_call 79
  (with_reducible refine (refMac Sk S4 zk z4 _ rk hrk hzk (by omega)).mono ?_)
  rintro r v5 ⟨S5, z5, rfl, HZ5, own5, hb5⟩
  have hz5 := hzz.below hb5 hzz.lt
  have hb5t := below_next hb4t hb5
  have cv5 := convF own5.rd _ (Below.refl _ _)
  refine hK _ _ (Keep.below hb5) ?_
  clear hK K
  (try simp only [Act.put, List.setIfInBounds_toArray, List.set_cons_zero, List.set_cons_succ])
  refine schT_one ?_
  refine grR_call rfl (by first | exact wanted_none rfl | exact wanted_some rfl rfl rfl rfl) (fun K hK => ?_)
  go_simp
  clear cv5
  refine hK _ _ (Keep.refl _ _) ?_
  clear hK K
  (try simp only [Act.put, List.setIfInBounds_toArray, List.set_cons_zero, List.set_cons_succ])
  repeat (first
  | (refine schT_pure (v := ?_) rfl (by first | exact wanted_none rfl | exact wanted_some rfl rfl rfl rfl) ?_ ?_; rotate_left 1; (focus (intro w' hw'; go_simp; (try with_reducible rfl); done)); (try simp only [Act.put, List.setIfInBounds_toArray, List.set_cons_zero, List.set_cons_succ]))
  | (refine schT_skip rfl (by first | exact wanted_not rfl rfl rfl rfl | exact wanted_undef rfl rfl rfl rfl) ?_; (try simp only [Act.put, List.setIfInBounds_toArray, List.set_cons_zero, List.set_cons_succ])))
  obtain ⟨_, d0, d1, d2, d3, d4, d5, d6, d7, d8⟩ := hz5.nine
  obtain ⟨g0, g1, g2, g3, g4, g5, g6, g7, g8⟩ := hz5.frees9
  refine schT_one ?_
  refine grR_call rfl (by first | exact wanted_none rfl | exact wanted_some rfl rfl rfl rfl) (fun K hK => ?_)
  go_simp
  refine hK _ _ (Keep.grown (grown9 v5 (w.heap.size + 1 + 1) (.int .u64 x.nonce) (.int .u64 two) (.string e.name) (.int .u64 e.id) (.int .i64 e.frm) (.int .i64 e.unt) (.int .i64 e.idx) (.string e.tag) (.string (bs z5))) (fun k hk e => by cases e; omega)) ?_
  clear hK K
  (try simp only [Act.put, List.setIfInBounds_toArray, List.set_cons_zero, List.set_cons_succ])
  refine schT_done ?_
  go_wp2_with fail
  have hsg : answerF k x two e = ⟨x.nonce, two, e, bs z5⟩ := by unfold answerF; rw [HZ5.out, HZk.out, toList_bs, HZ4.out, HZ3.out, HZ2.out, HZ1.out]; rfl
  rw [hsg]
  have t1 := hz5.set9 (.int .u64 x.nonce) (.int .u64 two) (.string e.name) (.int .u64 e.id) (.int .i64 e.frm) (.int .i64 e.unt) (.int .i64 e.idx) (.string e.tag) (.string (bs z5))
  have t2 := fun tm ht => results_cell (fn := Tryd.f19) (t := 8) (tmps := tm) (ty := 36) rfl ht t1 Tryd.underlying36 A_nineWR
  refine bodyPost_ret (t2 _ ?_) rfl ?_
  · rfl
  exact ⟨rfl, below_put9 hb5t (w.heap.size + 1 + 1) (by omega) _ _ _ _ _ _ _ _ _⟩
end Go.Proofs.YtdajfggehffooaaDoor
end
