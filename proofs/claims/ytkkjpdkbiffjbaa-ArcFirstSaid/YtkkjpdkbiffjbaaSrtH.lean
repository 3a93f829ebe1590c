/-
  This text proves that package slices' stable sort puts a slice of numbers that is a call's own in order; of no more than 1000 numbers.
-/
import Derived.Handy
import Derived.IntWalk
import Derived.StillTailTactics
import Derived.Test.YtkkjpdkbiffjbaaRows
import Derived.Test.YtkkjpdkbiffjbaaLib
import Derived.Test.YtkkjpdkbiffjbaaLibB
import Derived.Test.YtkkjpdkbiffjbaaLibC
import Derived.Test.YtkkjpdkbiffjbaaLibD
import Derived.Test.YtkkjpdkbiffjbaaLibE
import Derived.Test.YtkkjpdkbiffjbaaLibF
import Derived.Test.YtkkjpdkbiffjbaaLibG
import Derived.Test.YtkkjpdkbiffjbaaLibH
import Derived.Test.YtkkjpdkbiffjbaaLibI
import Derived.Test.YtkkjpdkbiffjbaaLibJ
import Derived.Test.YtkkjpdkbiffjbaaLibK
import Derived.Test.YtkkjpdkbiffjbaaEnts
import Derived.Test.YtkkjpdkbiffjbaaArcA
import Derived.Test.YtkkjpdkbiffjbaaSrtA
import Derived.Test.YtkkjpdkbiffjbaaSrtB
import Derived.Test.YtkkjpdkbiffjbaaSrtC
import Derived.Test.YtkkjpdkbiffjbaaSrtD
import Derived.Test.YtkkjpdkbiffjbaaSrtE
import Derived.Test.YtkkjpdkbiffjbaaSrtF
import Derived.Test.YtkkjpdkbiffjbaaSrtG
set_option linter.unusedSimpArgs false
set_option linter.unusedVariables false

namespace Go.Proofs.Ytkkjpdkbiffjbaa
open Go.RowKit

/-- blocks of s in order, up to u -/
def Blk (k : Int → Int) (z : List Int) (s u n : Nat) : Prop := ∀ p, s ∣ p → p < u → Srt k z p (min (p + s) n)
/-- blocks of s in order, from a on -/
def Rst (k : Int → Int) (z : List Int) (s a n : Nat) : Prop := ∀ p, s ∣ p → a ≤ p → p < n → Srt k z p (min (p + s) n)
theorem dvd_gap {s p a : Nat} (hp : s ∣ p) (ha : s ∣ a) (h : p < a) : p + s ≤ a := by
  have := Nat.le_of_dvd (by omega) (Nat.dvd_sub ha hp)
  omega
theorem Blk.step {k : Int → Int} {z z' : List Int} {s a b n : Nat} (h : Blk k z s a n) (hd : s ∣ a) (hsh : Shuf z z' a b) (hb : b = min (a + s) n) (hs : Srt k z' a b) : Blk k z' s (a + s) n := by
  intro p hp hpu
  by_cases hpa : p < a
  · have := dvd_gap hp hd hpa
    exact (h p hp hpa).same (fun q q1 q2 => hsh.out q (by omega))
  · have : p = a := by
      by_cases e : a < p
      · have := dvd_gap hd hp e; omega
      · omega
    rw [this, ← hb]; exact hs
theorem Blk.all {k : Int → Int} {z : List Int} {s u n : Nat} (h : Blk k z s u n) (hu : n ≤ u) : Blk k z s n n := fun p hp h1 => h p hp (by omega)
theorem Rst.step {k : Int → Int} {z z' : List Int} {s a b n : Nat} (h : Rst k z s a n) (hab : a ≤ b) (hsh : Shuf z z' a b) : Rst k z' s b n := fun p hp h1 h2 =>
  (h p hp (by omega) h2).same (fun q q1 q2 => hsh.out q (by omega))
theorem Blk.rst {k : Int → Int} {z : List Int} {s n : Nat} (h : Blk k z s n n) : Rst k z s 0 n := fun p hp _ h2 => h p hp h2
theorem Rst.two {k : Int → Int} {z : List Int} {s a n : Nat} (h : Rst k z s a n) (hd : 2 * s ∣ a) (h1 : a + s < n) : Srt k z a (a + s) ∧ Srt k z (a + s) (min (a + 2 * s) n) := by
  have hda : s ∣ a := Nat.dvd_trans ⟨2, by omega⟩ hd
  have e1 := h a hda (by omega) (by omega)
  have e2 := h (a + s) (Nat.dvd_add hda (Nat.dvd_refl s)) (by omega) h1
  rw [show min (a + s) n = a + s by omega] at e1
  rw [show a + s + s = a + 2 * s by omega] at e2
  exact ⟨e1, e2⟩
theorem Rst.last {k : Int → Int} {z : List Int} {s a n : Nat} (h : Rst k z s a n) (hd : 2 * s ∣ a) (h1 : n ≤ a + s) : Srt k z a n := by
  by_cases ha : a < n
  · have e1 := h a (Nat.dvd_trans ⟨2, by omega⟩ hd) (by omega) ha
    rwa [show min (a + s) n = n by omega] at e1
  · exact Srt.one _ _ (by omega)
def StI (k : Int → Int) (ys z : List Int) (n : Nat) : Prop := Shuf ys z 0 n
theorem blk_zero (k : Int → Int) (z : List Int) (s n : Nat) : Blk k z s 0 n := fun p _ h => by omega
theorem symMergeAt (T : Sl) (ys : List Int) (N a m b B G : Nat) (fr : Int) (w : World) (hN : ys.length = N) (ham : a < m) (hmb : m < b) (hb : b ≤ N) (hN2 : N ≤ 1000) (hs1 : Srt (dst fr) ys a m) (hs2 : Srt (dst fr) ys m b) (hO : Own rowU64 w B T ys) (hG : Var w G #[.int .u64 fr]) (hne : G ≠ T.b) :
    Calls Try.prog 86 #[.slice T.p N T.c, .int .i64 a, .int .i64 m, .int .i64 b, .func (.func 68) #[] #[.pointer (some ⟨G, 0, none⟩)]] w fun r w' => r = .returned (.tuple #[]) ∧ ∃ zs, Hid (Shuf ys zs a b ∧ Srt (dst fr) zs a b) ∧ Own rowU64 w' B T zs ∧ w.grownBy w' (some T.b) :=
  symMerge (b - a) T ys N a m b B G fr w (Nat.le_refl _) hN ham hmb hb hN2 hs1 hs2 hO hG hne
set_option maxRecDepth 8000 in
set_option maxHeartbeats 6400000 in
theorem stableSort (T : Sl) (ys : List Int) (N B G : Nat) (fr : Int) (w : World) (hN : ys.length = N) (hN2 : N ≤ 1000) (hO : Own rowU64 w B T ys) (hG : Var w G #[.int .u64 fr]) (hne : G ≠ T.b) :
    Calls Try.prog 80 #[.slice T.p N T.c, .int .i64 N, .func (.func 68) #[] #[.pointer (some ⟨G, 0, none⟩)]] w fun r w' => r = .returned (.tuple #[]) ∧ ∃ zs, Hid (Shuf ys zs 0 N ∧ Srt (dst fr) zs 0 N) ∧ Own rowU64 w' B T zs ∧ w.grownBy w' (some T.b) := by
  have HN := Lib.hid hN
  have HNG := Lib.hid hne
  have hnes : (some G : Option Nat) ≠ some T.b := fun e => hne (Option.some.inj e)
  have HNE := Lib.hid hnes
  clear hN hne hnes
  go_enter Try.func80, Try.ntmps80
  go_wp2
  go_loopw [7, 8] (fun av bv wr => ∃ (a b : Nat) (z : List Int), a ≤ N ∧ b = a + 20 ∧ av = .int .i64 a ∧ bv = .int .i64 b ∧ Hid (20 ∣ a ∧ Shuf ys z 0 N ∧ Blk (dst fr) z 20 a N) ∧ Own rowU64 wr B T z ∧ w.grownBy wr (some T.b)) (fun av _ _ => N - (intOf av).toNat)
  case atStart => exact ⟨0, 20, ys, by omega, rfl, rfl, rfl, ⟨Nat.dvd_zero _, Shuf.refl _ _ _, blk_zero _ _ _ _⟩, hO, grownBy_refl _ _⟩
  case round =>
    clear hO
    obtain ⟨a, b, z, haN, hba, rfl, rfl, HI, hO, hg⟩ := hrel
    have HZL : Hid (z.length = N) := by unfold Hid; rw [HI.out.2.1.len, HN.out]
    have hGr := hG.grown hg HNE.out
    by_cases hle : b ≤ N
    · have mk : decide ((b : Int) ≤ (N : Int)) = true := by simp; omega
      have e1 : IntKind.i64.wrap ((b : Int) + 20) = (b : Int) + 20 := IntWalk.i64_in _ (by omega)
      have hab : a ≤ b := by omega
      have HBA := Lib.hid hba
      clear hba
      go_wp2_with (go_at_call 85; (with_reducible refine (insSort T z N a b B G fr _ HZL.out hab hle hN2 hO hGr HNG.out).mono ?_); rintro r w1 ⟨rfl, z1, HZ, hO1, hg1'⟩; have hg1 := hg.trans hg1')
      have hba := HBA.out
      have HIN : Hid (20 ∣ b ∧ Shuf ys z1 0 N ∧ Blk (dst fr) z1 20 b N) :=
        ⟨by rw [hba]; exact Nat.dvd_add HI.out.1 (Nat.dvd_refl _), HI.out.2.1.trans (HZ.out.1.wide (by omega) hle), by rw [hba]; exact HI.out.2.2.step HI.out.1 HZ.out.1 (by omega) HZ.out.2⟩
      go_roundw
      case rel => exact ⟨b, b + 20, z1, hle, rfl, rfl, by go_num, HIN, hO1, hg1⟩
      case measure => simp [intOf]; omega
    · have mk : decide ((b : Int) ≤ (N : Int)) = false := by simp; omega
      have HBA := Lib.hid hba
      clear hba
      go_wp2_with (go_at_call 85; (with_reducible refine (insSort T z N a N B G fr _ HZL.out haN (Nat.le_refl _) hN2 hO hGr HNG.out).mono ?_); rintro r w1 ⟨rfl, z1, HZ, hO1, hg1'⟩; have hg1 := hg.trans hg1')
      have hba := HBA.out
      have HB0 : Hid (Shuf ys z1 0 N ∧ Blk (dst fr) z1 20 N N) := ⟨HI.out.2.1.trans (HZ.out.1.wide (by omega) (Nat.le_refl _)), (HI.out.2.2.step HI.out.1 HZ.out.1 (by omega) HZ.out.2).all (by omega)⟩
      clear hO hg mk hGr HI HZL hba
      go_loopw [6] (fun sv wr => ∃ (s : Nat) (z : List Int), 20 ≤ s ∧ s ≤ 4000 ∧ sv = .int .i64 s ∧ Hid (Shuf ys z 0 N ∧ Blk (dst fr) z s N N) ∧ Own rowU64 wr B T z ∧ w.grownBy wr (some T.b)) (fun sv _ => N - (intOf sv).toNat)
      case atStart => exact ⟨20, z1, by omega, by omega, rfl, HB0, hO1, hg1⟩
      case round =>
        clear hO1 hg1 hg1' HB0 HZ
        obtain ⟨s, z, hs20, hs40, rfl, HI, hO, hg⟩ := hrel
        by_cases hlt : s < N
        · have mk : decide ((s : Int) < (N : Int)) = true := by simp; omega
          have e1 : IntKind.i64.wrap (2 * (s : Int)) = 2 * (s : Int) := IntWalk.i64_in _ (by omega)
          go_wp2
          go_loopw [7, 8] (fun av bv wr => ∃ (a b : Nat) (z : List Int), a ≤ N ∧ b = a + 2 * s ∧ av = .int .i64 a ∧ bv = .int .i64 b ∧ Hid (2 * s ∣ a ∧ Shuf ys z 0 N ∧ Blk (dst fr) z (2 * s) a N ∧ Rst (dst fr) z s a N) ∧ Own rowU64 wr B T z ∧ w.grownBy wr (some T.b)) (fun av _ _ => N - (intOf av).toNat)
          case atStart => exact ⟨0, 2 * s, z, by omega, by omega, rfl, by go_num, ⟨Nat.dvd_zero _, HI.out.1, blk_zero _ _ _ _, HI.out.2.rst⟩, hO, hg⟩
          case round =>
            clear hO hg HI
            obtain ⟨a, b, z, haN, hba, rfl, rfl, HI, hO, hg⟩ := hrel
            have HZL : Hid (z.length = N) := by unfold Hid; rw [HI.out.2.1.len, HN.out]
            have hGr := hG.grown hg HNE.out
            obtain ⟨m, hm⟩ : ∃ m, m = a + s := ⟨_, rfl⟩
            have e2 : IntKind.i64.wrap ((a : Int) + (s : Int)) = (m : Int) := by rw [IntWalk.i64_in _ (by omega)]; omega
            have e3 : IntKind.i64.wrap ((s : Int) * 2) = (s : Int) * 2 := IntWalk.i64_in _ (by omega)
            have e4 : IntKind.i64.wrap ((b : Int) + 2 * (s : Int)) = (b : Int) + 2 * (s : Int) := IntWalk.i64_in _ (by omega)
            have ham : a < m := by omega
            by_cases hle : b ≤ N
            · have mk2 : decide ((b : Int) ≤ (N : Int)) = true := by simp; omega
              have hmb : m < b := by omega
              have hT2 := HI.out.2.2.2.two HI.out.1 (by omega)
              rw [← hm, show min (a + 2 * s) N = b by omega] at hT2
              have HT1 := Lib.hid hT2.1
              have HT2 := Lib.hid hT2.2
              have HBA := Lib.hid hba
              have HM := Lib.hid hm
              clear hT2 hba hm
              go_wp2_with (go_at_call 86; (with_reducible refine (symMergeAt T z N a m b B G fr _ HZL.out ham hmb hle hN2 HT1.out HT2.out hO hGr HNG.out).mono ?_); rintro r w1 ⟨rfl, z1, HZ, hO1, hg1'⟩; have hg1 := hg.trans hg1')
              have hba := HBA.out
              have hm := HM.out
              have HIN : Hid (2 * s ∣ b ∧ Shuf ys z1 0 N ∧ Blk (dst fr) z1 (2 * s) b N ∧ Rst (dst fr) z1 s b N) :=
                ⟨by rw [hba]; exact Nat.dvd_add HI.out.1 (Nat.dvd_refl _), HI.out.2.1.trans (HZ.out.1.wide (by omega) hle), by rw [hba]; exact HI.out.2.2.1.step HI.out.1 HZ.out.1 (by omega) HZ.out.2, HI.out.2.2.2.step (by omega) HZ.out.1⟩
              go_roundw
              case rel => exact ⟨b, b + 2 * s, z1, hle, rfl, rfl, by go_num, HIN, hO1, hg1⟩
              case measure => simp [intOf]; omega
            · have mk2 : decide ((b : Int) ≤ (N : Int)) = false := by simp; omega
              by_cases hmN : m < N
              · have mk3 : decide ((m : Int) < (N : Int)) = true := by simp; omega
                have hT2 := HI.out.2.2.2.two HI.out.1 (by omega)
                rw [← hm, show min (a + 2 * s) N = N by omega] at hT2
                have HT1 := Lib.hid hT2.1
                have HT2 := Lib.hid hT2.2
                have HBA := Lib.hid hba
                have HM := Lib.hid hm
                clear hT2 hba hm
                go_wp2_with (go_at_call 86; (with_reducible refine (symMergeAt T z N a m N B G fr _ HZL.out ham hmN (Nat.le_refl _) hN2 HT1.out HT2.out hO hGr HNG.out).mono ?_); rintro r w1 ⟨rfl, z1, HZ, hO1, hg1'⟩; have hg1 := hg.trans hg1')
                have hba := HBA.out
                have hm := HM.out
                have HIN : Hid (Shuf ys z1 0 N ∧ Blk (dst fr) z1 (2 * s) N N) := ⟨HI.out.2.1.trans (HZ.out.1.wide (by omega) (Nat.le_refl _)), (HI.out.2.2.1.step HI.out.1 HZ.out.1 (by omega) HZ.out.2).all (by omega)⟩
                go_roundw
                case rel => exact ⟨2 * s, z1, by omega, by omega, by go_num, HIN, hO1, hg1⟩
                case measure => simp [intOf]; omega
              · have mk3 : decide ((m : Int) < (N : Int)) = false := by simp; omega
                have HIN : Hid (Shuf ys z 0 N ∧ Blk (dst fr) z (2 * s) N N) := ⟨HI.out.2.1, (HI.out.2.2.1.step HI.out.1 (Shuf.refl z a N) (by omega) (HI.out.2.2.2.last HI.out.1 (by omega))).all (by omega)⟩
                clear hba hm
                go_wp2
                go_roundw
                case rel => exact ⟨2 * s, z, by omega, by omega, by go_num, HIN, hO, hg⟩
                case measure => simp [intOf]; omega
        · have mk : decide ((s : Int) < (N : Int)) = false := by simp; omega
          have HSN : Hid (Shuf ys z 0 N ∧ Srt (dst fr) z 0 N) := by
            refine ⟨HI.out.1, ?_⟩
            by_cases h0 : 0 < N
            · have := HI.out.2 0 (Nat.dvd_zero _) h0
              rwa [show min (0 + s) N = N by omega] at this
            · exact Srt.one _ _ (by omega)
          go_wp2
          go_returns
          exact ⟨rfl, z, HSN, hO, hg⟩
set_option maxHeartbeats 1600000 in
theorem sortStable (T : Sl) (ys : List Int) (N B G : Nat) (fr : Int) (w : World) (hN : ys.length = N) (hN2 : N ≤ 1000) (hO : Own rowU64 w B T ys) (hG : Var w G #[.int .u64 fr]) (hne : G ≠ T.b) :
    Calls Try.prog 67 #[.slice T.p N T.c, .func (.func 68) #[] #[.pointer (some ⟨G, 0, none⟩)]] w fun r w' => r = .returned (.tuple #[]) ∧ ∃ zs, Hid (Shuf ys zs 0 N ∧ Srt (dst fr) zs 0 N) ∧ Own rowU64 w' B T zs ∧ w.grownBy w' (some T.b) := by
  have HN := Lib.hid hN
  have HNG := Lib.hid hne
  clear hN hne
  go_enter Try.func67, Try.ntmps67
  go_wp2_with (go_at_call 80; (with_reducible refine (stableSort T ys N B G fr _ HN.out hN2 hO hG HNG.out).mono ?_); rintro r w1 ⟨rfl, z1, HZ, hO1, hg1⟩)
  go_returns
  exact ⟨rfl, z1, HZ, hO1, hg1⟩
end Go.Proofs.Ytkkjpdkbiffjbaa
