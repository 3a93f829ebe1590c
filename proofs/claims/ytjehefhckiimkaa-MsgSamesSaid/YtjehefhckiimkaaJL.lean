/-
  This text proves which message bytes of a kind are, in the program; no condition.
-/
import Derived.Handy
import Derived.IntWalk
import Derived.Deep.DeepCutAuto
import Derived.Test.YtjehefhckiimkaaRows
import Derived.Test.YtjehefhckiimkaaJA
import Derived.Test.YtjehefhckiimkaaJB
import Derived.Test.YtjehefhckiimkaaJC
import Derived.Test.YtjehefhckiimkaaJD
import Derived.Test.YtjehefhckiimkaaJDa
import Derived.Test.YtjehefhckiimkaaJE
import Derived.Test.YtjehefhckiimkaaJF
import Derived.Test.YtjehefhckiimkaaJFg
import Derived.Test.YtjehefhckiimkaaJGh
import Derived.Test.YtjehefhckiimkaaJFi
import Derived.Test.YtjehefhckiimkaaJGj
import Derived.Test.YtjehefhckiimkaaJGk
import Derived.Test.YtjehefhckiimkaaJJ
import Derived.Test.YtjehefhckiimkaaJK
section
set_option linter.unusedSimpArgs false
set_option linter.unusedVariables false

namespace Go.Proofs.Ytjehefhckiimkaa
open Go.RowKit

abbrev slB (B : Nat) : Sl := ⟨none, 0, B, 0⟩
theorem TAt.init {v : World} {B bt br bm : Nat} {σ : Rdr} {m : Msg} (htv : Var v bt #[.pointer (some ⟨br, 0, none⟩), .bool false, .bool false]) (hrv : RAt v br σ) (hmv : Var v bm (m.arr slY slY)) (he : m.ents = []) (hi : m.items = []) (h1 : bt ≠ br) (h2 : bt ≠ bm) (h3 : br ≠ bm) (hb : B ≤ bt ∧ B ≤ br ∧ B ≤ bm) :
    TAt v B bt br bm ⟨σ, m, false, false⟩ (slB B) (slB B) :=
  ⟨htv, hrv, hmv, by rw [show ((⟨σ, m, false, false⟩ : Tkr).msg.ents) = [] from he]; exact Own.nil v B B 0 (Nat.le_refl _), by rw [show ((⟨σ, m, false, false⟩ : Tkr).msg.items) = [] from hi]; exact Own.nil v B B 0 (Nat.le_refl _), h1, h2, h3, fun h => absurd rfl h, fun h => absurd rfl h, fun h => absurd rfl h, hb⟩
set_option maxRecDepth 8000 in
set_option maxHeartbeats 6400000 in
theorem msgTakeYes (S : Sl) (c : UInt8) (r : List UInt8) (w : World) (h : Rd rowU8 w S (c :: r)) (hk : isKind c.toNat = true) :
    Calls Try.prog 8 #[.slice S.p (c :: r).length S.c] w fun e w' => ∃ U T, e = .returned (.tuple #[(takeM (c :: r)).1.val' U T, .int .i64 (takeM (c :: r)).2]) ∧ MRd w' (takeM (c :: r)).1 U T ∧ Below w.heap.size w w' := by
  have hA := (Below.refl w.heap.size w).alloc (Nat.le_refl _) (.cells msgF 29)
  have vz := Var.made w msgF 29 (n := w.heap.size) rfl
  have vz' : Var (w.alloc (.cells msgF 29)) w.heap.size (Msg.zero.arr slY slY) := vz
  have h0 := h.below hA (Nat.le_refl _)
  have hlt : 0 < (c :: r).length := Nat.succ_pos _
  have hSlt : S.b < w.heap.size := h.lt (by simp)
  have ix : ∀ w', (Instr.indexAt 22 (.slice S.p (c :: r).length S.c) (.int .i64 0)).run Try.prog w' = .ok (.pointer (some ⟨S.b, S.off, none⟩)) w' := h0.ix1 (P := Try.prog) Try.underlying22 A_one8m rfl (k := 0) hlt
  have cc : (w.alloc (.cells msgF 29)).cell? ⟨S.b, S.off, none⟩ = some (.int .u8 c.toNat) := h0.u8 (k := 0) rfl
  have hc := byte_lt c
  have cw : IntKind.i64.wrap (c.toNat : Int) = (c.toNat : Int) := IntWalk.i64_in _ (by omega)
  obtain ⟨S1, z1, HZ1, hcut0, hr1⟩ := h0.cutFrom (P := Try.prog) Try.underlying22 A_one8m 1 (by simp)
  have hcut : ∀ w', (Instr.sliceAt 22 (.slice S.p (c :: r).length S.c) (some (.int .i64 1)) none none).run Try.prog w' = .ok (.slice S1.p z1.length S1.c) w' := hcut0
  obtain rfl : z1 = r := HZ1.out
  have hTok := takeT_ok z1 c.toNat hr1.len
  have hTl := takeT_len z1 c.toNat
  have hTe := hTl.ents
  have hTi := hTl.items
  have hTo := hTok.ok
  have HT0 := fun e he => takeM_tail (r := z1) hk rfl hTok.rdr.met (e := e) he
  have kh := fun v => msgHas (c.toNat : Int) v
  rw [hk] at kh
  have kf : ∀ v B bt br bm U T, TAt v B bt br bm (takeM0 z1 c.toNat) U T → Calls Try.prog 27 #[.pointer (some ⟨bt, 0, none⟩), .pointer (some ⟨bm, 0, none⟩), .agg (fldArr c.toNat)] v fun e w' => e = .returned (.tuple #[]) ∧ ∃ U' T', TAt w' B bt br bm (takeT z1 c.toNat) U' T' ∧ TL v w' bt br bm U T U' T' := by
    intro v B bt br bm U T hv
    rw [takeT_steps]
    exact tkFields B bt br bm (takeM0 z1 c.toNat) U T _ _ _ _ _ _ _ _ _ (not_both _) (Nat.zero_le _) (Nat.zero_le _) rfl v hv
  have HM0 : Hid (takeM0 z1 c.toNat = ⟨((Rdr.mk z1 0).num 4).2, { Msg.zero with kind := c.toNat, rid := ((Rdr.mk z1 0).num 4).1 }, false, false⟩) := rfl
  have kn := fun b v hv => rNum b ⟨z1, 0⟩ 4 v hv
  have hn4 := num_small (Rdr.mk z1 0) 4 (by omega)
  rw [show (((4 : Nat) : Int)) = 4 from rfl, show (256 : Int) ^ 4 = 4294967296 from rfl] at hn4
  have hw4 : IntKind.i64.wrap ((Rdr.mk z1 0).num 4).1 = ((Rdr.mk z1 0).num 4).1 := IntWalk.i64_in _ (by omega)
  clear hn4 hTok hTl HZ1 hcut0
  generalize ((Rdr.mk z1 0).num 4).1 = n4 at *
  generalize ((Rdr.mk z1 0).num 4).2 = σ4 at *
  generalize takeM0 z1 c.toNat = x0 at *
  generalize takeT z1 c.toNat = X at *
  obtain ⟨n, hn⟩ : ∃ n, (c :: z1).length = n := ⟨_, rfl⟩
  have m0 : ((n : Int) == 0) = false := by rw [← hn]; simp; omega
  have m1 : decide ((n : Int) = 0) = false := by rw [← hn]; simp; omega
  rw [hn] at ix hcut ⊢
  obtain ⟨M, hM⟩ : ∃ M, takeM (c :: z1) = M := ⟨_, rfl⟩
  simp only [hM] at HT0
  rw [hM]
  clear hn hlt h0 hk hM
  unfold fldArr at kh kf
  generalize hasF c.toNat .r = fr at *
  generalize hasF c.toNat .h = fh at *
  generalize hasF c.toNat .g = fg at *
  generalize hasF c.toNat .i = fi at *
  generalize hasF c.toNat .n = fn at *
  generalize hasF c.toNat .k = fk at *
  generalize hasF c.toNat .v = fv at *
  generalize hasF c.toNat .e = fe at *
  generalize hasF c.toNat .t = ft at *
  go_enter Try.func8, Try.ntmps8
  go_upto_region 7 with (first
    | (go_at_call 24; (with_reducible refine (kh _).mono ?_); rintro r w1 ⟨rfl, hB1⟩; have va1 := (vz'.below hB1 vz'.lt).alloc (.cells (flA fr fh fg fi fn fk fv fe ft) 50); have hb1 := (hA.trans (hB1.mono hA.size)).alloc (hA.trans (hB1.mono hA.size)).size (.cells (flA fr fh fg fi fn fk fv fe ft) 50); have vf1 := Var.made w1 (flA fr fh fg fi fn fk fv fe ft) 50 (n := w1.heap.size) rfl; have hr2 := (hr1.below hB1 (Nat.le_refl _)).alloc (.cells (flA fr fh fg fi fn fk fv fe ft) 50); have hl1 := (vz'.below hB1 vz'.lt).lt; have hs1 : (w1.alloc (.cells (flA fr fh fg fi fn fk fv fe ft) 50)).heap.size = w1.heap.size + 1 := (by simp))
    | (go_at_call 25; (with_reducible refine (packOpen S1 z1 _ hr2).mono ?_); rintro r w2 ⟨rfl, hrv2, hB2⟩; have va2 := va1.below hB2 va1.lt; have vf2 := vf1.below hB2 vf1.lt; have hb2 := hb1.trans (hB2.mono hb1.size); rw [hs1] at hrv2 ⊢))
  have va3 := va2.alloc (.cells #[.pointer (some ⟨w1.heap.size + 1, 0, none⟩), .bool false, .bool false] 57)
  have vf3 := vf2.alloc (.cells #[.pointer (some ⟨w1.heap.size + 1, 0, none⟩), .bool false, .bool false] 57)
  have hb3 := hb2.alloc hb2.size (.cells #[.pointer (some ⟨w1.heap.size + 1, 0, none⟩), .bool false, .bool false] 57)
  have vt3 := Var.made w2 #[.pointer (some ⟨w1.heap.size + 1, 0, none⟩), .bool false, .bool false] 57 (n := w2.heap.size) rfl
  have hrv3 : RAt (w2.alloc (.cells #[.pointer (some ⟨w1.heap.size + 1, 0, none⟩), .bool false, .bool false] 57)) (w1.heap.size + 1) ⟨z1, 0⟩ := ⟨hrv2.1.alloc _, hrv2.2⟩
  have hl2 := hrv2.1.lt
  have hl3 := vt3.lt
  clear hA vz vz' va1 hb1 vf1 hr2 hs1 va2 vf2 hb2 hrv2 hB1 hB2 kh cc hcut hr1
  generalize w1.heap.size = bf at *
  generalize w2.heap.size = bt at *
  generalize w2.alloc (.cells #[.pointer (some ⟨bf + 1, 0, none⟩), .bool false, .bool false] 57) = w3 at *
  go_cut [7] (fun s7 wx => ∃ bm, s7 = .pointer (some ⟨bm, 0, none⟩) ∧ TAt wx (w.heap.size + 1) bt (bf + 1) bm x0 (slB (w.heap.size + 1)) (slB (w.heap.size + 1)) ∧ Var wx bf (flA fr fh fg fi fn fk fv fe ft) ∧ Var wx w.heap.size (Msg.zero.arr slY slY) ∧ Below w.heap.size w wx ∧ bf ≠ bm ∧ w.heap.size ≠ bm)
  case first =>
    obtain rfl : x0 = _ := HM0.out
    refine wp_region_schT (Keep (fun k => k < w.heap.size ∨ k = bt)) (Keep.refl (fun k => k < w.heap.size ∨ k = bt)) (fun _ _ _ h k => h.trans k) (.pure 0 (.pure 1 (.pure 2 (.pure 3 (.pure 4 (.pure 5 (.pure 6 (.pure 7 (.two 8 (.pure 9 (.pure 10 (.one 11 (.one 12 .done)))) 11 (.one 8 (.pure 9 (.pure 10 (.one 12 .done))))))))))))) (by kernel_rfl) (by kernel_rfl) (fun _ _ d _ _ h => by cases d <;> exact h) ?_
    have hby := hb3.trans (Below.quiet (B := w.heap.size) (w := w3) (w' := w3.drew) ⟨1, rfl⟩)
    have vay := va3.drew
    have vfy := vf3.drew
    have vty := vt3.drew
    have hrvy : RAt w3.drew (bf + 1) ⟨z1, 0⟩ := ⟨hrv3.1.drew, hrv3.2⟩
    have hyl : bt < w3.drew.heap.size := hl3
    clear hb3 va3 vf3 vt3 hrv3 hl3
    generalize w3.drew = y at *
    have hSy := h.below hby (Nat.le_refl _)
    have cs : ∀ w', Keep (fun k => k < w.heap.size ∨ k = bt) y w' → w'.cell? ⟨S.b, S.off, none⟩ = some (.int .u8 c.toNat) := fun w' k => (hSy.keep k (fun _ => .inl hSlt)).u8 (k := 0) rfl
    have c0 : ∀ w', Keep (fun k => k < w.heap.size ∨ k = bt) y w' → w'.cell? ⟨bt, 0, none⟩ = some (.pointer (some ⟨bf + 1, 0, none⟩)) := fun w' k => (vty.keep k (.inr rfl)).cell 0
    repeat (first
    | (refine schT_pure (v := ?_) rfl (by first | exact wanted_none rfl | exact wanted_some rfl rfl rfl rfl) ?_ ?_; rotate_left 1; (focus (intro w' hw'; go_simp; (try with_reducible rfl); done)); (try simp only [Act.put, List.setIfInBounds_toArray, List.set_cons_zero, List.set_cons_succ]))
    | (refine schT_skip rfl (by first | exact wanted_not rfl rfl rfl rfl | exact wanted_undef rfl rfl rfl rfl) ?_; (try simp only [Act.put, List.setIfInBounds_toArray, List.set_cons_zero, List.set_cons_succ])))
    clear cs c0
    refine schT_two ?_ ?_
    · skip
      refine grR_call rfl (by first | exact wanted_none rfl | exact wanted_some rfl rfl rfl rfl) (fun K hK => ?_)
      go_simp
      go_at_call 26
      (with_reducible refine (kn _ _ hrvy).mono ?_)
      rintro r v5 ⟨rfl, hr5, hg5⟩
      have kp : Keep (fun k => k < w.heap.size ∨ k = bt) _ v5 := Keep.grown hg5 (fun k hk e => by have := Option.some.inj e; omega)
      have vay := vay.grown hg5 (fun e => by have := Option.some.inj e; omega)
      have vfy := vfy.grown hg5 (fun e => by have := Option.some.inj e; omega)
      have vty := vty.grown hg5 (fun e => by have := Option.some.inj e; omega)
      have hby := hby.grown hg5 hby.size (fun k hk => by cases hk; omega)
      have hyl := vty.lt
      refine hK _ _ kp ?_
      clear hK K kp hg5
      (try simp only [Act.put, List.setIfInBounds_toArray, List.set_cons_zero, List.set_cons_succ])
      repeat (first
      | (refine schT_pure (v := ?_) rfl (by first | exact wanted_none rfl | exact wanted_some rfl rfl rfl rfl) ?_ ?_; rotate_left 1; (focus (intro w' hw'; go_simp; (try with_reducible rfl); done)); (try simp only [Act.put, List.setIfInBounds_toArray, List.set_cons_zero, List.set_cons_succ]))
      | (refine schT_skip rfl (by first | exact wanted_not rfl rfl rfl rfl | exact wanted_undef rfl rfl rfl rfl) ?_; (try simp only [Act.put, List.setIfInBounds_toArray, List.set_cons_zero, List.set_cons_succ])))
      refine schT_one ?_
      refine grR_call rfl (by first | exact wanted_none rfl | exact wanted_some rfl rfl rfl rfl) (fun K hK => ?_)
      go_simp
      have hBa := (Below.refl (v5).heap.size v5).alloc (Nat.le_refl _) (.cells msgF 29)
      have vm : Var ((v5).alloc (.cells msgF 29)) (v5).heap.size (Msg.zero.arr slY slY) := Var.made v5 msgF 29 (n := (v5).heap.size) rfl
      have vay := vay.alloc (.cells msgF 29)
      have vfy := vfy.alloc (.cells msgF 29)
      have vty := vty.alloc (.cells msgF 29)
      have hby := hby.alloc hby.size (.cells msgF 29)
      first
        | have hr5 : RAt (World.alloc v5 (.cells msgF 29)) (bf + 1) σ4 := ⟨hr5.1.alloc _, hr5.2⟩
        | have hrvy : RAt (World.alloc v5 (.cells msgF 29)) (bf + 1) ⟨z1, 0⟩ := ⟨hrvy.1.alloc _, hrvy.2⟩
      refine hK _ _ (Keep.below hBa) ?_
      clear hK K hBa
      (try simp only [Act.put, List.setIfInBounds_toArray, List.set_cons_zero, List.set_cons_succ])
      have hbm := hyl
      generalize hbz : (v5).heap.size = bm at *
      generalize World.alloc v5 (.cells msgF 29) = v6 at *
      clear hbz
      obtain ⟨_, d0, d1, d2, d3, d4, d5, d6, d7, d8, d9, d10⟩ := vm.msg
      obtain ⟨f0, f1, f2, f3, f4, f5, f6, f7, f8, f9, f10⟩ := vm.frees11
      refine schT_one ?_
      refine grR_call rfl (by first | exact wanted_none rfl | exact wanted_some rfl rfl rfl rfl) (fun K hK => ?_)
      go_simp
      refine hK _ _ (Keep.grown (grown11 v6 bm { Msg.zero with kind := (c.toNat : Int), rid := n4 } slY slY) (fun k hk e => by have := Option.some.inj e; omega)) ?_
      clear hK K d0 d1 d2 d3 d4 d5 d6 d7 d8 d9 d10 f0 f1 f2 f3 f4 f5 f6 f7 f8 f9 f10
      (try simp only [Act.put, List.setIfInBounds_toArray, List.set_cons_zero, List.set_cons_succ])
      have hg := grown11 v6 bm { Msg.zero with kind := (c.toNat : Int), rid := n4 } slY slY
      have vm9 := vm.set11 { Msg.zero with kind := (c.toNat : Int), rid := n4 } slY slY
      have hT9 := TAt.init (B := w.heap.size + 1) (vty.grown hg (fun e => by have := Option.some.inj e; omega)) (⟨hr5.1.grown hg (fun e => by have := Option.some.inj e; omega), hr5.2⟩ : RAt _ (bf + 1) σ4) vm9 rfl rfl (by omega) (by omega) (by omega) ⟨by omega, by omega, by omega⟩
      have vf9 := vfy.grown hg (fun e => by have := Option.some.inj e; omega)
      have va9 := vay.grown hg (fun e => by have := Option.some.inj e; omega)
      have hb9 := hby.grown hg hby.size (fun k hk => by cases hk; omega)
      refine schT_done ?_
      go_wp2_with fail
      go_meet
      exact ⟨bm, rfl, hT9, vf9, va9, hb9, by omega, by omega⟩
    · skip
      refine grR_call rfl (by first | exact wanted_none rfl | exact wanted_some rfl rfl rfl rfl) (fun K hK => ?_)
      go_simp
      have hBa := (Below.refl (y).heap.size y).alloc (Nat.le_refl _) (.cells msgF 29)
      have vm : Var ((y).alloc (.cells msgF 29)) (y).heap.size (Msg.zero.arr slY slY) := Var.made y msgF 29 (n := (y).heap.size) rfl
      have vay := vay.alloc (.cells msgF 29)
      have vfy := vfy.alloc (.cells msgF 29)
      have vty := vty.alloc (.cells msgF 29)
      have hby := hby.alloc hby.size (.cells msgF 29)
      first
        | have hr5 : RAt (World.alloc y (.cells msgF 29)) (bf + 1) σ4 := ⟨hr5.1.alloc _, hr5.2⟩
        | have hrvy : RAt (World.alloc y (.cells msgF 29)) (bf + 1) ⟨z1, 0⟩ := ⟨hrvy.1.alloc _, hrvy.2⟩
      refine hK _ _ (Keep.below hBa) ?_
      clear hK K hBa
      (try simp only [Act.put, List.setIfInBounds_toArray, List.set_cons_zero, List.set_cons_succ])
      have hbm := hyl
      generalize hbz : (y).heap.size = bm at *
      generalize World.alloc y (.cells msgF 29) = v6 at *
      clear hbz
      refine schT_one ?_
      refine grR_call rfl (by first | exact wanted_none rfl | exact wanted_some rfl rfl rfl rfl) (fun K hK => ?_)
      go_simp
      go_at_call 26
      (with_reducible refine (kn _ _ hrvy).mono ?_)
      rintro r v7 ⟨rfl, hr5, hg5⟩
      have kp : Keep (fun k => k < w.heap.size ∨ k = bt) _ v7 := Keep.grown hg5 (fun k hk e => by have := Option.some.inj e; omega)
      have vay := vay.grown hg5 (fun e => by have := Option.some.inj e; omega)
      have vfy := vfy.grown hg5 (fun e => by have := Option.some.inj e; omega)
      have vty := vty.grown hg5 (fun e => by have := Option.some.inj e; omega)
      have hby := hby.grown hg5 hby.size (fun k hk => by cases hk; omega)
      have vm := vm.grown hg5 (fun e => by have := Option.some.inj e; omega)
      refine hK _ _ kp ?_
      clear hK K kp hg5
      (try simp only [Act.put, List.setIfInBounds_toArray, List.set_cons_zero, List.set_cons_succ])
      repeat (first
      | (refine schT_pure (v := ?_) rfl (by first | exact wanted_none rfl | exact wanted_some rfl rfl rfl rfl) ?_ ?_; rotate_left 1; (focus (intro w' hw'; go_simp; (try with_reducible rfl); done)); (try simp only [Act.put, List.setIfInBounds_toArray, List.set_cons_zero, List.set_cons_succ]))
      | (refine schT_skip rfl (by first | exact wanted_not rfl rfl rfl rfl | exact wanted_undef rfl rfl rfl rfl) ?_; (try simp only [Act.put, List.setIfInBounds_toArray, List.set_cons_zero, List.set_cons_succ])))
      obtain ⟨_, d0, d1, d2, d3, d4, d5, d6, d7, d8, d9, d10⟩ := vm.msg
      obtain ⟨f0, f1, f2, f3, f4, f5, f6, f7, f8, f9, f10⟩ := vm.frees11
      refine schT_one ?_
      refine grR_call rfl (by first | exact wanted_none rfl | exact wanted_some rfl rfl rfl rfl) (fun K hK => ?_)
      go_simp
      refine hK _ _ (Keep.grown (grown11 v7 bm { Msg.zero with kind := (c.toNat : Int), rid := n4 } slY slY) (fun k hk e => by have := Option.some.inj e; omega)) ?_
      clear hK K d0 d1 d2 d3 d4 d5 d6 d7 d8 d9 d10 f0 f1 f2 f3 f4 f5 f6 f7 f8 f9 f10
      (try simp only [Act.put, List.setIfInBounds_toArray, List.set_cons_zero, List.set_cons_succ])
      have hg := grown11 v7 bm { Msg.zero with kind := (c.toNat : Int), rid := n4 } slY slY
      have vm9 := vm.set11 { Msg.zero with kind := (c.toNat : Int), rid := n4 } slY slY
      have hT9 := TAt.init (B := w.heap.size + 1) (vty.grown hg (fun e => by have := Option.some.inj e; omega)) (⟨hr5.1.grown hg (fun e => by have := Option.some.inj e; omega), hr5.2⟩ : RAt _ (bf + 1) σ4) vm9 rfl rfl (by omega) (by omega) (by omega) ⟨by omega, by omega, by omega⟩
      have vf9 := vfy.grown hg (fun e => by have := Option.some.inj e; omega)
      have va9 := vay.grown hg (fun e => by have := Option.some.inj e; omega)
      have hb9 := hby.grown hg hby.size (fun k hk => by cases hk; omega)
      refine schT_done ?_
      go_wp2_with fail
      go_meet
      exact ⟨bm, rfl, hT9, vf9, va9, hb9, by omega, by omega⟩
  obtain ⟨bm, rfl, hT, vfc, vzc, hbc, nfm, nzm⟩ := hcut
  have hbt := hT.tr
  have nz : ¬ TF bt (bf + 1) bm (slB (w.heap.size + 1)) (slB (w.heap.size + 1)) w.heap.size := fun hh => by have := hT.flo hh; omega
  have g0 := vfc.cell 0
  have g1 := vfc.cell 1
  have g2 := vfc.cell 2
  have g3 := vfc.cell 3
  have g4 := vfc.cell 4
  have g5 := vfc.cell 5
  have g6 := vfc.cell 6
  have g7 := vfc.cell 7
  have g8 := vfc.cell 8
  obtain ⟨e, he⟩ : ∃ e, X.rdr.fin = e := ⟨_, rfl⟩
  have ke := fun v hv => rEnd (bf + 1) X.rdr v hv
  rw [he] at ke
  have HT := Lib.hid (HT0 e he)
  clear HT0 he HM0 kn hw4 hb3 va3 vf3 vt3 hrv3 hl3 hl2 hl1 ix cw hc m0 m1
  go_upto_region 10 with (first
    | (go_at_call 27; (with_reducible refine (kf _ _ _ _ _ _ _ hT).mono ?_); rintro r w5 ⟨rfl, U5, T5, h5, l5⟩; obtain ⟨vz5, nz5⟩ := l5.var vzc nz; have e5 := h5.tv.cell 0)
    | (go_at_call 28; (with_reducible refine (ke _ h5.rv).mono ?_); rintro r w6 ⟨rfl, rfl⟩))
  have hb5 := hbc.trans ((TL.bel hT l5).mono (Nat.le_succ _))
  clear l5 hT vzc hbc nz g0 g1 g2 g3 g4 g5 g6 g7 g8 vfc kf ke e5
  have e1 := h5.tv.cell 1
  have e2 := h5.tv.cell 2
  have e1' : w5.cell? ⟨bt, 1, none⟩ = some (.bool X.bad) := e1
  have e2' : w5.cell? ⟨bt, 2, none⟩ = some (.bool X.big) := e2
  clear e1 e2
  obtain ⟨_, d0, d1, d2, d3, d4, d5, d6, d7, d8, d9, d10⟩ := vz5.msg
  obtain ⟨f0, f1, f2, f3, f4, f5, f6, f7, f8, f9, f10⟩ := vz5.frees11
  have hE := h5.eo.rd
  have hI := h5.io.rd
  have hmz : ∀ v, MRd v Msg.zero slY slY := fun v => ⟨nilY_ent _, nilY_item _⟩
  by_cases hA3 : X.big = true ∧ (e = 0 ∨ e = 12)
  · obtain rfl : M = (Msg.zero, 3) := by rw [HT.out, if_pos hA3]
    rw [hA3.1] at e2'
    rcases hA3.2 with he | he
    · subst he
      clear HT hA3
      go_wp2_with fail
      show bodyPost _ _ _ _ _ (World.put11 w5 w.heap.size Msg.zero slY slY)
      have t1 := (vz5).set11 Msg.zero slY slY
      have t2 := fun tm ht => results_cell_tmp (fn := Try.f8) (t := 2) (u := 3) (tmps := tm) (ty := 29) rfl ht t1 Try.underlying29 A_msg11
      refine bodyPost_ret (t2 _ ?_) ?_ ?_
      · rfl
      · rfl
      exact ⟨slY, slY, rfl, hmz _, below_put11 hb5 w.heap.size (Nat.le_refl _) Msg.zero slY slY⟩
    · subst he
      clear HT hA3
      go_wp2_with fail
      show bodyPost _ _ _ _ _ (World.put11 w5 w.heap.size Msg.zero slY slY)
      have t1 := (vz5).set11 Msg.zero slY slY
      have t2 := fun tm ht => results_cell_tmp (fn := Try.f8) (t := 2) (u := 3) (tmps := tm) (ty := 29) rfl ht t1 Try.underlying29 A_msg11
      refine bodyPost_ret (t2 _ ?_) ?_ ?_
      · rfl
      · rfl
      exact ⟨slY, slY, rfl, hmz _, below_put11 hb5 w.heap.size (Nat.le_refl _) Msg.zero slY slY⟩
  by_cases he0 : e ≠ 0
  · obtain rfl : M = (Msg.zero, e) := by rw [HT.out, if_neg hA3, if_pos he0]
    have t0 : (e == 0) = false := by simp [he0]
    have t0' : decide (e = 0) = false := by simp [he0]
    have t1 : (e != 0) = true := by simp [he0]
    have t1' : decide (¬ e = 0) = true := by simp [he0]
    by_cases hbg : X.big = true
    · have h12 : e ≠ 12 := fun h => hA3 ⟨hbg, .inr h⟩
      rw [hbg] at e2'
      have t2 : (e == 12) = false := by simp [h12]
      have t2' : decide (e = 12) = false := by simp [h12]
      clear HT hA3 he0 h12 hbg
      go_wp2_with fail
      show bodyPost _ _ _ _ _ (World.put11 w5 w.heap.size Msg.zero slY slY)
      have t1 := (vz5).set11 Msg.zero slY slY
      have t2 := fun tm ht => results_cell_tmp (fn := Try.f8) (t := 2) (u := 3) (tmps := tm) (ty := 29) rfl ht t1 Try.underlying29 A_msg11
      refine bodyPost_ret (t2 _ ?_) ?_ ?_
      · rfl
      · rfl
      exact ⟨slY, slY, rfl, hmz _, below_put11 hb5 w.heap.size (Nat.le_refl _) Msg.zero slY slY⟩
    · have hbg' : X.big = false := by simpa using hbg
      rw [hbg'] at e2'
      clear HT hA3 he0 hbg hbg'
      go_wp2_with fail
      show bodyPost _ _ _ _ _ (World.put11 w5 w.heap.size Msg.zero slY slY)
      have t1 := (vz5).set11 Msg.zero slY slY
      have t2 := fun tm ht => results_cell_tmp (fn := Try.f8) (t := 2) (u := 3) (tmps := tm) (ty := 29) rfl ht t1 Try.underlying29 A_msg11
      refine bodyPost_ret (t2 _ ?_) ?_ ?_
      · rfl
      · rfl
      exact ⟨slY, slY, rfl, hmz _, below_put11 hb5 w.heap.size (Nat.le_refl _) Msg.zero slY slY⟩
  obtain rfl : e = 0 := Decidable.not_not.1 he0
  have hbg : X.big = false := by
    cases hb : X.big
    · rfl
    · exact absurd ⟨hb, .inl rfl⟩ hA3
  have HT2 : Hid (M = if (X.bad || !X.msg.right) = true then (Msg.zero, 11) else (X.msg, 0)) := by unfold Hid; rw [HT.out, if_neg hA3, if_neg he0]
  rw [hbg] at e2'
  clear HT hA3 he0 hbg
  by_cases hbd : X.bad = true
  · obtain rfl : M = (Msg.zero, 11) := by rw [HT2.out, hbd]; rfl
    rw [hbd] at e1'
    clear HT2 hbd
    go_wp2_with fail
    show bodyPost _ _ _ _ _ (World.put11 w5 w.heap.size Msg.zero slY slY)
    have t1 := (vz5).set11 Msg.zero slY slY
    have t2 := fun tm ht => results_cell_tmp (fn := Try.f8) (t := 2) (u := 3) (tmps := tm) (ty := 29) rfl ht t1 Try.underlying29 A_msg11
    refine bodyPost_ret (t2 _ ?_) ?_ ?_
    · rfl
    · rfl
    exact ⟨slY, slY, rfl, hmz _, below_put11 hb5 w.heap.size (Nat.le_refl _) Msg.zero slY slY⟩
  have hbd' : X.bad = false := by simpa using hbd
  rw [hbd'] at e1'
  have kr := fun v hv => msgRight X.msg U5 T5 v hv hTo (by omega) (by omega)
  obtain ⟨_, b0, b1, b2, b3, b4, b5, b6, b7, b8, b9, b10⟩ := h5.mv.msg
  cases hrt : X.msg.right
  · obtain rfl : M = (Msg.zero, 11) := by rw [HT2.out, hbd', hrt]; rfl
    rw [hrt] at kr
    clear HT2 hbd hbd' hrt d0 d1 d2 d3 d4 d5 d6 d7 d8 d9 d10 f0 f1 f2 f3 f4 f5 f6 f7 f8 f9 f10
    go_wp2_with (go_at_call 14; (with_reducible refine (kr _ ⟨hE, hI⟩).mono ?_); rintro r w7 ⟨rfl, hB7⟩; have vz7 := vz5.below hB7 vz5.lt; have hb7 := hb5.trans (hB7.mono hb5.size); obtain ⟨_, d0, d1, d2, d3, d4, d5, d6, d7, d8, d9, d10⟩ := vz7.msg; obtain ⟨f0, f1, f2, f3, f4, f5, f6, f7, f8, f9, f10⟩ := vz7.frees11)
    show bodyPost _ _ _ _ _ (World.put11 w7 w.heap.size Msg.zero slY slY)
    have t1 := (vz7).set11 Msg.zero slY slY
    have t2 := fun tm ht => results_cell_tmp (fn := Try.f8) (t := 2) (u := 3) (tmps := tm) (ty := 29) rfl ht t1 Try.underlying29 A_msg11
    refine bodyPost_ret (t2 _ ?_) ?_ ?_
    · rfl
    · rfl
    exact ⟨slY, slY, rfl, hmz _, below_put11 hb7 w.heap.size (Nat.le_refl _) Msg.zero slY slY⟩
  · obtain rfl : M = (X.msg, 0) := by rw [HT2.out, hbd', hrt]; rfl
    rw [hrt] at kr
    clear HT2 hbd hbd' hrt d0 d1 d2 d3 d4 d5 d6 d7 d8 d9 d10 f0 f1 f2 f3 f4 f5 f6 f7 f8 f9 f10
    go_wp2_with (go_at_call 14; (with_reducible refine (kr _ ⟨hE, hI⟩).mono ?_); rintro r w7 ⟨rfl, hB7⟩; have vz7 := vz5.below hB7 vz5.lt; have hb7 := hb5.trans (hB7.mono hb5.size); have h7 := h5.below hB7; obtain ⟨_, d0, d1, d2, d3, d4, d5, d6, d7, d8, d9, d10⟩ := vz7.msg; obtain ⟨f0, f1, f2, f3, f4, f5, f6, f7, f8, f9, f10⟩ := vz7.frees11; obtain ⟨_, q0, q1, q2, q3, q4, q5, q6, q7, q8, q9, q10⟩ := h7.mv.msg)
    show bodyPost _ _ _ _ _ (World.put11 w7 w.heap.size X.msg U5 T5)
    have t1 := (vz7).set11 X.msg U5 T5
    have t2 := fun tm ht => results_cell_tmp (fn := Try.f8) (t := 2) (u := 3) (tmps := tm) (ty := 29) rfl ht t1 Try.underlying29 A_msg11
    refine bodyPost_ret (t2 _ ?_) ?_ ?_
    · rfl
    · rfl
    have h9 := h7.other (grown11 w7 w.heap.size X.msg U5 T5) nz5
    exact ⟨U5, T5, rfl, ⟨h9.eo.rd, h9.io.rd⟩, below_put11 hb7 w.heap.size (Nat.le_refl _) X.msg U5 T5⟩
theorem msgTake (S : Sl) (l : List UInt8) (w : World) (h : Rd rowU8 w S l) :
    Calls Try.prog 8 #[.slice S.p l.length S.c] w fun e w' => ∃ U T, e = .returned (.tuple #[(takeM l).1.val' U T, .int .i64 (takeM l).2]) ∧ MRd w' (takeM l).1 U T ∧ Below w.heap.size w w' := by
  cases l with
  | nil => exact msgTakeNil S w
  | cons c r =>
    cases hk : isKind (c.toNat : Int)
    · exact msgTakeNo S c r w h hk
    · exact msgTakeYes S c r w h hk
end Go.Proofs.Ytjehefhckiimkaa
end
