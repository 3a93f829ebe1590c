import Derived.Test.YtmnedkhkphnbhaaRows
import Derived.Test.YtmnedkhkphnbhaaLib
import Derived.Test.YtmnedkhkphnbhaaLaw
import Derived.Test.YtmnedkhkphnbhaaOpen
import Derived.Test.YtmnedkhkphnbhaaPackA
import Derived.Test.YtmnedkhkphnbhaaPackR
import Derived.Test.YtmnedkhkphnbhaaPackS
import Derived.Test.YtmnedkhkphnbhaaPackT
import Derived.Test.YtmnedkhkphnbhaaPackU
set_option linter.unusedSimpArgs false
set_option linter.unusedVariables false

namespace Go.Proofs.Ytmnedkhkphnbhaa
open Go.RowKit

def rowCall : RowOf (Int × Int) := ⟨fun c => [.int .i64 c.1, .int .i64 c.2], 2, by decide, fun _ => rfl, fun c u hu => by simp at hu; rcases hu with rfl | rfl <;> rfl⟩
theorem A_two : (Try.prog.info? 47).map (·.size) = some 2 := by kernel_rfl
theorem Rd.call {w : World} {S : Sl} {xs : List (Int × Int)} (h : Rd rowCall w S xs) {k : Nat} {x : Int × Int} (hx : xs[k]? = some x) :
    w.cell? ⟨S.b, S.off + k * 2, none⟩ = some (.int .i64 x.1) ∧ w.cell? ⟨S.b, S.off + k * 2 + 1, none⟩ = some (.int .i64 x.2) :=
  ⟨h.cell k x hx 0 (by decide), h.cell k x hx 1 (by decide)⟩
theorem dead_raw (σ : Rdr) (n : Int) (h : σ.met ≠ 0) : σ.raw n = ([], σ) := by unfold Rdr.raw; rw [if_pos h]
theorem dead_num (σ : Rdr) (n : Int) (h : σ.met ≠ 0) : σ.num n = (0, σ) := by
  have : σ.arg n = σ := by unfold Rdr.arg; rw [if_neg (by omega)]
  unfold Rdr.num
  rw [this, dead_raw σ n h]
  rfl
theorem dead_text (σ : Rdr) (n : Int) (h : σ.met ≠ 0) : σ.text n = ([], σ) := by
  unfold Rdr.text
  rw [dead_num σ 2 h]
  rw [if_neg (by simp only; omega)]
  exact dead_raw σ _ h
theorem RAt.grow {w w' : World} {b c : Nat} {σ : Rdr} (h : RAt w b σ) (hg : w.grownBy w' (some c)) (hne : b ≠ c) : RAt w' b σ :=
  ⟨h.1.of_same (hg.block b h.lt (fun e => hne (Option.some.inj e))), h.2⟩

theorem deadNum (b : Nat) (n : Int) (σ : Rdr) (hd : σ.met ≠ 0) (w : World) (h : RAt w b σ) :
    Calls Try.prog 34 #[.pointer (some ⟨b, 0, none⟩), .int .i64 n] w fun e w' => e = .returned (.int .u64 0) ∧ RAt w' b σ ∧ w.grownBy w' (some b) := by
  have := rNum b σ n w h
  rwa [dead_num σ n hd] at this
theorem deadText (b : Nat) (n : Int) (σ : Rdr) (hd : σ.met ≠ 0) (w : World) (h : RAt w b σ) :
    Calls Try.prog 36 #[.pointer (some ⟨b, 0, none⟩), .int .i64 n] w fun e w' => e = .returned (.string ByteArray.empty) ∧ RAt w' b σ ∧ w.grownBy w' (some b) := by
  have := rText b σ n w h
  rwa [dead_text σ n hd] at this
theorem deadRaw (b : Nat) (n : Int) (σ : Rdr) (hd : σ.met ≠ 0) (w : World) (h : RAt w b σ) :
    Calls Try.prog 38 #[.pointer (some ⟨b, 0, none⟩), .int .i64 n] w fun e w' => e = .returned (.string ByteArray.empty) ∧ RAt w' b σ ∧ w.grownBy w' (some b) := by
  have := rRaw b σ n w h
  rwa [dead_raw σ n hd] at this
theorem deadLeft (b : Nat) (σ : Rdr) (hd : σ.met ≠ 0) (w : World) (h : RAt w b σ) :
    Calls Try.prog 40 #[.pointer (some ⟨b, 0, none⟩)] w fun e w' => e = .returned (.int .i64 0) ∧ w = w' := by
  have := rLeft b σ w h
  have e : σ.left = 0 := by unfold Rdr.left; rw [if_pos hd]
  rwa [e] at this

set_option maxHeartbeats 2000000 in
theorem lawPackStays (S : Sl) (l : List UInt8) (T : Sl) (cs : List (Int × Int)) (hcs : ∀ c ∈ cs, I64 c.1 ∧ I64 c.2) (w : World) (h : Rd rowU8 w S l) (hT : Rd rowCall w T cs) :
    Calls Try.prog 9 #[.slice S.p l.length S.c, .slice T.p cs.length T.c] w fun e w' => e = .returned (.bool true) ∧ Below w.heap.size w w' := by
  have hlen := h.len
  have hlen2 := hT.len
  by_cases hg : 3000 < l.length
  · have hg' : decide ((3000:Int) < (l.length : Int)) = true := by simp; omega
    go_enter Try.func9, Try.ntmps9
    go_wp2_with (go_at_call 27; ((with_reducible refine (packWorks _).mono ?_); rintro e w1 ⟨rfl, hbel⟩))
    go_ret
    exact ⟨rfl, hbel⟩
  have hg1 : decide ((3000:Int) < (l.length : Int)) = false := by simp; omega
  by_cases hg2 : 100 < cs.length
  · have hg' : decide ((100:Int) < (cs.length : Int)) = true := by simp; omega
    go_enter Try.func9, Try.ntmps9
    go_wp2_with (go_at_call 27; ((with_reducible refine (packWorks _).mono ?_); rintro e w1 ⟨rfl, hbel⟩))
    go_ret
    exact ⟨rfl, hbel⟩
  have hg3 : decide ((100:Int) < (cs.length : Int)) = false := by simp; omega
  clear hg hg2
  have H1 : Hid ((Rdr.mk l 0).raw l.length = (l, ⟨[], 0⟩)) := by
    unfold Hid Rdr.raw
    rw [if_neg (by simp), if_neg (by omega), if_neg (by simp)]
    simp
  have H2 : Hid ((Rdr.mk [] 0).num 9 = (0, ⟨[], 2⟩)) := by
    unfold Hid
    have e : (Rdr.mk [] 0).arg 9 = ⟨[], 2⟩ := by unfold Rdr.arg; rw [if_pos ⟨rfl, by omega⟩]
    unfold Rdr.num
    rw [e, dead_raw _ _ (by simp)]
    rfl
  have hd : (⟨[], 2⟩ : Rdr).met ≠ 0 := by simp
  go_enter Try.func9, Try.ntmps9
  go_wp2_with (first
    | (go_at_call 27; ((with_reducible refine (packWorks _).mono ?_); rintro e w1 ⟨rfl, hb1⟩; have h1 := h.below hb1 (Nat.le_refl _); have hsz1 := hb1.size))
    | (go_at_call 32; ((with_reducible refine (packOpen S l _ h1).mono ?_); rintro e w2 ⟨rfl, hr2, hb2⟩; have hsz2 := hb2.size; have hlt2 := hr2.lt))
    | (go_at_call 38; ((with_reducible refine (rRaw _ _ _ _ hr2).mono ?_); rintro e w3 ⟨rfl, hr3, hgr3⟩; rw [H1.out] at hr3))
    | (go_at_call 34; ((with_reducible refine (rNum _ _ _ _ hr3).mono ?_); rintro e w4 ⟨rfl, hr4, hgr4⟩; rw [H2.out] at hr4; have hg24 := grown2 hgr3 hgr4; have hb4 : Below w.heap.size w w4 := (hb1.trans (hb2.mono hsz1)).grown hg24 (by omega) (fun k hk => by cases hk; omega))))
  clear hb1 hb2 hgr3 hgr4 hg24 hr2 hr3
  go_loopw [28] (fun i wr => ∃ k : Nat, k ≤ cs.length ∧ i = .int .i64 k ∧ RAt wr w1.heap.size ⟨[], 2⟩ ∧ Below w.heap.size w wr) (fun i _ => cs.length - (intOf i).toNat)
  case atStart => exact ⟨0, by omega, rfl, hr4, hb4⟩
  case round =>
    obtain ⟨k, hk, rfl, hr, hbel⟩ := hrel
    by_cases hlt : k < cs.length
    · obtain ⟨c, hc⟩ := get_of_lt hlt
      have hT' := hT.below hbel (Nat.le_refl _)
      have hix := hT'.ix Try.underlying41 A_two rfl hlt
      obtain ⟨hc0, hc1⟩ := hT'.call hc
      have HC := Lib.hid hc; clear hc
      have hrl := hr.lt
      have hne : wr.heap.size ≠ w1.heap.size := by omega
      have hv := Var.made wr #[.int .i64 c.1, .int .i64 c.2] 47 rfl
      have hr0 : RAt (wr.alloc (.cells #[.int .i64 c.1, .int .i64 c.2] 47)) w1.heap.size ⟨[], 2⟩ := ⟨hr.1.alloc _, hr.2⟩
      have hb0 : Below w.heap.size w (wr.alloc (.cells #[.int .i64 c.1, .int .i64 c.2] 47)) := hbel.alloc (by omega) _
      go_wp2_with (first
        | (go_at_call 34; ((with_reducible refine (deadNum _ _ _ hd _ hr0).mono ?_); rintro e w5 ⟨rfl, hr5, hg5⟩; have hv5 := hv.of_same (hg5.block _ hv.lt (fun e => hne (Option.some.inj e))); obtain ⟨_, _, hcc5, _, _⟩ := hv5.two; have hb5 := hb0.grown hg5 (by simp; omega) (fun k hk => by cases hk; omega)))
        | (go_at_call 36; ((with_reducible refine (deadText _ _ _ hd _ hr5).mono ?_); rintro e w6 ⟨rfl, hr6, hg6⟩; have hv6 := hv5.of_same (hg6.block _ hv5.lt (fun e => hne (Option.some.inj e))); obtain ⟨_, _, hcc6, _, _⟩ := hv6.two; have hb6 := hb5.grown hg6 (by have := hb5.size; omega) (fun k hk => by cases hk; omega)))
        | (go_at_call 38; ((with_reducible refine (deadRaw _ _ _ hd _ hr6).mono ?_); rintro e w7 ⟨rfl, hr7, hg7⟩; have hb7 := hb6.grown hg7 (by have := hb6.size; omega) (fun k hk => by cases hk; omega)))
        | (go_at_call 40; ((with_reducible refine (deadLeft _ _ hd _ hr7).mono ?_); rintro e w' ⟨rfl, rfl⟩)))
      go_round
      case rel => exact ⟨k + 1, by omega, by go_num, hr7, hb7⟩
      case measure => simp [intOf]; omega
    · have hkl : k = cs.length := by omega
      go_wp2_with (go_at_call 42; ((with_reducible refine (rEnd _ _ _ hr).mono ?_); rintro e w' ⟨rfl, rfl⟩))
      go_ret
      exact ⟨rfl, hbel⟩

theorem QAt.grow {w w' : World} {b c : Nat} {S : Sl} {l : List UInt8} {σ : Rdr} (h : QAt w b S l σ) (hg : w.grownBy w' (some c)) (hne : b ≠ c) (hs : l ≠ [] → S.b ≠ c) : QAt w' b S l σ := by
  obtain ⟨a, hv, h1, h2⟩ := h.var
  exact ⟨⟨a, hv.of_same (hg.block b hv.lt (fun e => hne (Option.some.inj e))), h1, h2⟩, h.rd.grown hg (fun hl e => hs hl (Option.some.inj e)), h.apart, h.met⟩
theorem QAt.alloc {w : World} {b : Nat} {S : Sl} {l : List UInt8} {σ : Rdr} (h : QAt w b S l σ) (o : Obj) : QAt (w.alloc o) b S l σ := by
  obtain ⟨a, hv, h1, h2⟩ := h.var
  exact ⟨⟨a, hv.alloc o, h1, h2⟩, h.rd.alloc o, h.apart, h.met⟩
theorem QAt.drewN {w : World} {b : Nat} {S : Sl} {l : List UInt8} {σ : Rdr} (h : QAt w b S l σ) (n : Nat) : QAt (w.drewN n) b S l σ := by
  obtain ⟨a, hv, h1, h2⟩ := h.var
  exact ⟨⟨a, hv.drewN n, h1, h2⟩, h.rd.quiet ⟨n, rfl⟩, h.apart, h.met⟩
theorem RAt.alloc {w : World} {b : Nat} {σ : Rdr} (h : RAt w b σ) (o : Obj) : RAt (w.alloc o) b σ := ⟨h.1.alloc o, h.2⟩
theorem RAt.drewN {w : World} {b : Nat} {σ : Rdr} (h : RAt w b σ) (n : Nat) : RAt (w.drewN n) b σ := ⟨h.1.drewN n, h.2⟩
theorem QAt.below {w w' : World} {b : Nat} {S : Sl} {l : List UInt8} {σ : Rdr} {B : Nat} (h : QAt w b S l σ) (hb : Below B w w') (hB : w.heap.size ≤ B) : QAt w' b S l σ := by
  obtain ⟨a, hv, h1, h2⟩ := h.var
  exact ⟨⟨a, hv.below hb (by have := hv.lt; omega), h1, h2⟩, h.rd.below hb hB, h.apart, h.met⟩


set_option maxHeartbeats 4000000 in
theorem lawPackReads (S : Sl) (l : List UInt8) (T : Sl) (cs : List (Int × Int)) (hcs : ∀ c ∈ cs, I64 c.1 ∧ I64 c.2) (w : World) (h : Rd rowU8 w S l) (hT : Rd rowCall w T cs) :
    Calls Try.prog 7 #[.slice S.p l.length S.c, .slice T.p cs.length T.c] w fun e w' => e = .returned (.bool true) ∧ Below w.heap.size w w' := by
  have hlen := h.len
  have hlen2 := hT.len
  by_cases hg : 3000 < l.length
  · have hg' : decide ((3000:Int) < (l.length : Int)) = true := by simp; omega
    go_enter Try.func7, Try.ntmps7
    go_wp2_with (go_at_call 27; ((with_reducible refine (packWorks _).mono ?_); rintro e w1 ⟨rfl, hbel⟩))
    go_ret
    exact ⟨rfl, hbel⟩
  have hg1 : decide ((3000:Int) < (l.length : Int)) = false := by simp; omega
  by_cases hg2 : 100 < cs.length
  · have hg' : decide ((100:Int) < (cs.length : Int)) = true := by simp; omega
    go_enter Try.func7, Try.ntmps7
    go_wp2_with (go_at_call 27; ((with_reducible refine (packWorks _).mono ?_); rintro e w1 ⟨rfl, hbel⟩))
    go_ret
    exact ⟨rfl, hbel⟩
  have hg3 : decide ((100:Int) < (cs.length : Int)) = false := by simp; omega
  clear hg hg2
  go_enter Try.func7, Try.ntmps7
  go_wp2_with (first
    | (go_at_call 32; ((with_reducible refine (packOpen S l _ h).mono ?_); rintro e w1 ⟨rfl, hr1, hb1⟩; have h1 := h.below hb1 (Nat.le_refl _); have hsz1 := hb1.size; have hlt1 := hr1.lt))
    | (go_at_call 33; ((with_reducible refine (refOpen S l _ h1).mono ?_); rintro e w2 ⟨rfl, hq2, hb2⟩; have hr2 := hr1.below hb2 (by omega); have hsz2 := hb2.size; have hlt2 := hq2.lt; have hb12 := hb1.trans (hb2.mono hsz1))))
  clear hb1 hb2 hr1
  go_loopw [25] (fun i wr => ∃ (k : Nat) (σ : Rdr), k ≤ cs.length ∧ i = .int .i64 k ∧ RAt wr w.heap.size σ ∧ QAt wr w1.heap.size S l σ ∧ Below w.heap.size w wr) (fun i _ => cs.length - (intOf i).toNat)
  case atStart => exact ⟨0, _, by omega, rfl, hr2, hq2, hb12⟩
  case round =>
    obtain ⟨k, σ, hk, rfl, hr, hq, hbel⟩ := hrel
    by_cases hlt : k < cs.length
    · obtain ⟨c, hc⟩ := get_of_lt hlt
      have hT' := hT.below hbel (Nat.le_refl _)
      have hix := hT'.ix Try.underlying41 A_two rfl hlt
      obtain ⟨hc0, hc1⟩ := hT'.call hc
      have hi := hcs c (List.mem_of_getElem? hc)
      have HC := Lib.hid hc; clear hc
      have hrl := hr.lt
      have hql := hq.lt
      have hne : wr.heap.size ≠ w.heap.size := by omega
      have hneq : wr.heap.size ≠ w1.heap.size := by omega
      have hqr : w1.heap.size ≠ w.heap.size := by omega
      have hsr : l ≠ [] → S.b ≠ w.heap.size := fun hl e => by have := h.lt hl; omega
      have hv := Var.made wr #[.int .i64 c.1, .int .i64 c.2] 47 rfl
      have hr0 : RAt (wr.alloc (.cells #[.int .i64 c.1, .int .i64 c.2] 47)).drew w.heap.size σ := (hr.alloc _).drewN 1
      have hq0 : QAt (wr.alloc (.cells #[.int .i64 c.1, .int .i64 c.2] 47)).drew w1.heap.size S l σ := (hq.alloc _).drewN 1
      have hb0 : Below w.heap.size w (wr.alloc (.cells #[.int .i64 c.1, .int .i64 c.2] 47)).drew := (hbel.alloc (by omega) _).trans (Below.quiet ⟨1, rfl⟩)
      by_cases k0 : c.1 = 0
      · have e0 : (c.1 == 0) = true := by simpa using k0
        clear k0
        go_wp2
        go_region_with (first
          | (go_at_call 34; refine (rNum _ _ _ _ hr0).mono ?_; rintro e w5 ⟨rfl, hr5, hg5⟩; have hq5 := hq0.grow hg5 hqr hsr; have hv5 := hv.drew.of_same (hg5.block _ hv.drew.lt (fun e => hne (Option.some.inj e))); obtain ⟨_, _, hcc5, _, _⟩ := hv5.two; have hb5 := hb0.grown hg5 (by have := hb0.size; omega) (fun k hk => by cases hk; omega))
          | (go_at_call 35; refine (qNum _ _ _ _ _ hi.2 _ hq5).mono ?_; rintro e w6 ⟨rfl, hq6, hg6⟩; have hr6 := hr5.grow hg6 (Ne.symm hqr); have hb6 := hb5.grown hg6 (by have := hb5.size; omega) (fun k hk => by cases hk; omega)))
        all_goals
          clear hb0 hb5 hg5 hg6 hr5 hq5 hv hv5 hcc5 hr0 hq0
          go_wp2
          go_round
          case rel => exact ⟨k + 1, _, by omega, by go_num, hr6, hq6, hb6⟩
          case measure => simp [intOf]; omega
      have e0 : (c.1 == 0) = false := by simpa using k0
      by_cases k1 : c.1 = 1
      · have e1 : (c.1 == 1) = true := by simpa using k1
        clear k0 k1
        go_wp2
        go_region_with (first
          | (go_at_call 36; refine (rText _ _ _ _ hr0).mono ?_; rintro e w5 ⟨rfl, hr5, hg5⟩; have hq5 := hq0.grow hg5 hqr hsr; have hv5 := hv.drew.of_same (hg5.block _ hv.drew.lt (fun e => hne (Option.some.inj e))); obtain ⟨_, _, hcc5, _, _⟩ := hv5.two; have hb5 := hb0.grown hg5 (by have := hb0.size; omega) (fun k hk => by cases hk; omega))
          | (go_at_call 37; refine (qText _ _ _ _ _ _ hq5).mono ?_; rintro e w6 ⟨rfl, hq6, hg6⟩; have hr6 := hr5.grow hg6 (Ne.symm hqr); have hb6 := hb5.grown hg6 (by have := hb5.size; omega) (fun k hk => by cases hk; omega)))
        all_goals
          clear hb0 hb5 hg5 hg6 hr5 hq5 hv hv5 hcc5 hr0 hq0
          go_wp2
          go_round
          case rel => exact ⟨k + 1, _, by omega, by go_num, hr6, hq6, hb6⟩
          case measure => simp [intOf]; omega
      have e1 : (c.1 == 1) = false := by simpa using k1
      by_cases k2 : c.1 = 2
      · have e2 : (c.1 == 2) = true := by simpa using k2
        clear k0 k1 k2
        go_wp2
        go_region_with (first
          | (go_at_call 38; refine (rRaw _ _ _ _ hr0).mono ?_; rintro e w5 ⟨rfl, hr5, hg5⟩; have hq5 := hq0.grow hg5 hqr hsr; have hv5 := hv.drew.of_same (hg5.block _ hv.drew.lt (fun e => hne (Option.some.inj e))); obtain ⟨_, _, hcc5, _, _⟩ := hv5.two; have hb5 := hb0.grown hg5 (by have := hb0.size; omega) (fun k hk => by cases hk; omega))
          | (go_at_call 39; refine (qRaw _ _ _ _ _ hi.2 _ hq5).mono ?_; rintro e w6 ⟨rfl, hq6, hg6⟩; have hr6 := hr5.grow hg6 (Ne.symm hqr); have hb6 := hb5.grown hg6 (by have := hb5.size; omega) (fun k hk => by cases hk; omega)))
        all_goals
          clear hb0 hb5 hg5 hg6 hr5 hq5 hv hv5 hcc5 hr0 hq0
          go_wp2
          go_round
          case rel => exact ⟨k + 1, _, by omega, by go_num, hr6, hq6, hb6⟩
          case measure => simp [intOf]; omega
      · have e2 : (c.1 == 2) = false := by simpa using k2
        have hr0 : RAt (wr.alloc (.cells #[.int .i64 c.1, .int .i64 c.2] 47)) w.heap.size σ := hr.alloc _
        have hq0 : QAt (wr.alloc (.cells #[.int .i64 c.1, .int .i64 c.2] 47)) w1.heap.size S l σ := hq.alloc _
        have hb0 : Below w.heap.size w (wr.alloc (.cells #[.int .i64 c.1, .int .i64 c.2] 47)) := hbel.alloc (by omega) _
        clear k0 k1 k2
        go_wp2_with (first
          | (go_at_call 40; ((with_reducible refine (rLeft _ _ _ hr0).mono ?_); rintro e w' ⟨rfl, rfl⟩))
          | (go_at_call 41; ((with_reducible refine (qLeft _ _ _ _ _ hq0).mono ?_); rintro e w7 ⟨rfl, n7, rfl⟩)))
        go_round
        case rel => exact ⟨k + 1, _, by omega, by go_num, hr0.drewN _, hq0.drewN _, hb0.trans (Below.quiet ⟨_, rfl⟩)⟩
        case measure => simp [intOf]; omega
    · have hkl : k = cs.length := by omega
      have hww := packWorks
      go_wp2_with (first
        | (go_at_call 42; ((with_reducible refine (rEnd _ _ _ hr).mono ?_); rintro e w' ⟨rfl, rfl⟩))
        | (go_at_call 43; ((with_reducible refine (qEnd _ _ _ _ _ hq).mono ?_); rintro e w7 ⟨rfl, n7, rfl⟩))
        | (go_at_call 27; ((with_reducible refine (packWorks _).mono ?_); rintro e w8 ⟨rfl, hb8⟩)))
      go_ret
      exact ⟨rfl, (hbel.trans (Below.quiet ⟨n7, rfl⟩)).trans (hb8.mono (by have := hbel.size; simpa using this))⟩
end Go.Proofs.Ytmnedkhkphnbhaa
