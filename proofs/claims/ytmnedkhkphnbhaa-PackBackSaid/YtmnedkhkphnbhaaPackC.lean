import Derived.Test.YtmnedkhkphnbhaaRows
import Derived.Test.YtmnedkhkphnbhaaLib
import Derived.Test.YtmnedkhkphnbhaaLaw
import Derived.Test.YtmnedkhkphnbhaaOpen
import Derived.Test.YtmnedkhkphnbhaaPackA
import Derived.Test.YtmnedkhkphnbhaaPackR
import Derived.Test.YtmnedkhkphnbhaaPackS
import Derived.Test.YtmnedkhkphnbhaaPackT
import Derived.Test.YtmnedkhkphnbhaaPackU
import Derived.Test.YtmnedkhkphnbhaaPackB
set_option linter.unusedSimpArgs false
set_option linter.unusedVariables false

namespace Go.Proofs.Ytmnedkhkphnbhaa
open Go.ChangeShapes Go.WideShapes Go.ChangeAt Go.RowKit

def numsOf (m : Nat) (l : List Int) : List UInt8 := l.flatMap fun n => putNum n m
def textsOf (l : List ByteArray) : List UInt8 := l.flatMap fun s => putText s.data.toList
theorem numsOf_snoc (m : Nat) (l : List Int) (n : Int) : numsOf m (l ++ [n]) = numsOf m l ++ putNum n m := by simp [numsOf]
theorem textsOf_snoc (l : List ByteArray) (s : ByteArray) : textsOf (l ++ [s]) = textsOf l ++ putText s.data.toList := by simp [textsOf]
theorem drop_get {α : Type} {l : List α} {k : Nat} {x : α} (h : l[k]? = some x) : l.drop k = x :: l.drop (k + 1) := by
  obtain ⟨hk, rfl⟩ := List.getElem?_eq_some_iff.1 h
  exact List.drop_eq_getElem_cons hk
theorem numsOf_len (m : Nat) (l : List Int) : (numsOf m l).length ≤ 8 * l.length := by
  induction l with
  | nil => simp [numsOf]
  | cons a l ih =>
    have : numsOf m (a :: l) = putNum a m ++ numsOf m l := by simp [numsOf]
    rw [this, List.length_append, List.length_cons]
    have := putNum_length a m
    omega
theorem textsOf_len (l : List ByteArray) : (textsOf l).length ≤ 65543 * l.length := by
  induction l with
  | nil => simp [textsOf]
  | cons a l ih =>
    have : textsOf (a :: l) = putText a.data.toList ++ textsOf l := by simp [textsOf]
    rw [this, List.length_append, List.length_cons]
    have := putText_length a.data.toList
    omega

theorem A_one_u64' : (Try.prog.info? 22).map (·.size) = some 1 := by kernel_rfl
theorem A_one_str : (Try.prog.info? 9).map (·.size) = some 1 := by kernel_rfl

theorem shl_pow (m : Nat) (h : m < 8) : IntKind.u64.wrap (2 ^ (8 * m)) = 256 ^ m := by
  have h : m = 0 ∨ m = 1 ∨ m = 2 ∨ m = 3 ∨ m = 4 ∨ m = 5 ∨ m = 6 ∨ m = 7 := by omega
  rcases h with rfl | rfl | rfl | rfl | rfl | rfl | rfl | rfl <;> decide +kernel

set_option maxHeartbeats 4000000 in
theorem lawPackBack (S : Sl) (ns : List Int) (hns : ∀ n ∈ ns, U64 n) (T : Sl) (ts : List ByteArray) (hts : ∀ s ∈ ts, s.size ≤ 9223372036854775807) (z : UInt8) (w : World) (h : Rd rowU64 w S ns) (hT : Rd rowStr w T ts) :
    Calls Try.prog 8 #[.slice S.p ns.length S.c, .slice T.p ts.length T.c, .int .u8 z.toNat] w fun e w' => e = .returned (.bool true) ∧ Below w.heap.size w w' := by
  have hlen := h.len
  have hlen2 := hT.len
  by_cases hg : 50 < ns.length
  · have hg' : decide ((50:Int) < (ns.length : Int)) = true := by simp; omega
    go_enter Try.func8, Try.ntmps8
    go_wp2_with (go_at_call 27; ((with_reducible refine (packWorks _).mono ?_); rintro e w1 ⟨rfl, hbel⟩))
    go_ret
    exact ⟨rfl, hbel⟩
  have hg1 : decide ((50:Int) < (ns.length : Int)) = false := by simp; omega
  by_cases hg2 : 50 < ts.length
  · have hg' : decide ((50:Int) < (ts.length : Int)) = true := by simp; omega
    go_enter Try.func8, Try.ntmps8
    go_wp2_with (go_at_call 27; ((with_reducible refine (packWorks _).mono ?_); rintro e w1 ⟨rfl, hbel⟩))
    go_ret
    exact ⟨rfl, hbel⟩
  have hg3 : decide ((50:Int) < (ts.length : Int)) = false := by simp; omega
  go_enter Try.func8, Try.ntmps8
  go_wp2_with (go_at_call 27; ((with_reducible refine (packWorks _).mono ?_); rintro e w1 ⟨rfl, hb1⟩; have hS1 := h.below hb1 (Nat.le_refl _); have hT1 := hT.below hb1 (Nat.le_refl _); have hsz1 := hb1.size))
  obtain ⟨m, hm, hm1, hm8⟩ : ∃ m : Nat, wrap64 (1 + (wrap64 ↑z.toNat).tmod 8) = m ∧ 1 ≤ m ∧ m ≤ 8 := by
    have := byte_lt z
    have e : wrap64 (z.toNat : Int) = z.toNat := by unfold wrap64; omega
    have h2 : ((z.toNat : Int)).tmod 8 = (z.toNat % 8 : Nat) := by rw [Int.tmod_eq_emod_of_nonneg (by omega)]; omega
    refine ⟨1 + z.toNat % 8, ?_, by omega, by omega⟩
    rw [e, h2]
    unfold wrap64; omega
  rw [hm]
  have h50 : ns.length ≤ 50 := by omega
  have t50 : ts.length ≤ 50 := by omega
  clear hm hg hg2 h hT
  go_loopw [8, 34] (fun v i wr => ∃ (k : Nat) (U : Sl) (zs : List UInt8), k ≤ ns.length ∧ i = .int .i64 k ∧ v = .slice U.p zs.length U.c ∧ Hid (zs = numsOf m (ns.take k)) ∧ Own rowU8 wr w1.heap.size U zs ∧ Below w1.heap.size w1 wr) (fun _ i _ => ns.length - (intOf i).toNat)
  case atStart => exact ⟨0, ⟨none, 0, w1.heap.size, 0⟩, [], by omega, rfl, rfl, by unfold Hid; simp [numsOf], Own.nil _ _ _ _ (Nat.le_refl _), Below.refl _ _⟩
  case round =>
    obtain ⟨k, U, zs, hk, rfl, rfl, HZ, hown, hbel⟩ := hrel
    by_cases hlt : k < ns.length
    · obtain ⟨n, hn⟩ := get_of_lt hlt
      have hS' := hS1.below hbel (Nat.le_refl _)
      have hix := hS'.ix1 Try.underlying54 A_one_u64' rfl hlt
      have hcc := hS'.u64 hn
      have hnn := hns n (List.mem_of_getElem? hn)
      have htk := take_get hn
      have HN := Lib.hid htk; clear htk
      have HG := Lib.hid hn; clear hn
      have hzl : zs.length ≤ 400 := by have := numsOf_len m (ns.take k); have h2 := List.length_take_le k ns; have e := congrArg List.length HZ.out; omega
      go_wp2_with (go_at_call 28; ((with_reducible refine (packNum w1.heap.size U zs n m hnn _ hbel.size hown (by omega)).mono ?_); rintro e w2 ⟨U2, z2, rfl, HZ2, hown2, hext2⟩))
      go_round
      case rel => exact ⟨k + 1, U2, z2, by omega, by go_num, rfl, by unfold Hid; rw [HZ2.out, HZ.out, HN.out, numsOf_snoc], hown2, hbel.trans (hext2.below hown.lo hbel.size)⟩
      case measure => simp [intOf]; omega
    · have hkl : k = ns.length := by omega
      subst hkl
      rw [List.take_length] at HZ
      obtain ⟨wa, rfl⟩ : ∃ wa : World, wa = wr := ⟨_, rfl⟩
      go_wp2
      go_loopw [8, 45] (fun v i wr => ∃ (k : Nat) (U : Sl) (zs : List UInt8), k ≤ ts.length ∧ i = .int .i64 k ∧ v = .slice U.p zs.length U.c ∧ Hid (zs = numsOf m ns ++ textsOf (ts.take k)) ∧ Own rowU8 wr w1.heap.size U zs ∧ Below w1.heap.size w1 wr ∧ ∀ s ∈ ts.take k, s.size ≤ 1000) (fun _ i _ => ts.length - (intOf i).toNat)
      case atStart => exact ⟨0, U, zs, by omega, rfl, rfl, by unfold Hid; rw [HZ.out]; simp [textsOf], hown, hbel, by simp⟩
      case round =>
        clear hown hbel HZ
        obtain ⟨k, U, zs, hk, rfl, rfl, HZ, hown, hbel, hall⟩ := hrel
        by_cases hlt : k < ts.length
        · obtain ⟨s, hn⟩ := get_of_lt hlt
          have hT' := hT1.below hbel (Nat.le_refl _)
          have hix := hT'.ix1 Try.underlying55 A_one_str rfl hlt
          have hcc := hT'.str hn
          have hnn := hts s (List.mem_of_getElem? hn)
          have htk := take_get hn
          have HN := Lib.hid htk; clear htk
          have HG := Lib.hid hn; clear hn
          by_cases hs : 1000 < s.size
          · have hs' : decide ((1000:Int) < (s.size : Int)) = true := by simp; omega
            go_wp2
            go_ret
            exact ⟨rfl, hb1.trans (hbel.mono hsz1)⟩
          have hs' : decide ((1000:Int) < (s.size : Int)) = false := by simp; omega
          have hzl : zs.length ≤ 4000000 := by
            have := numsOf_len m ns; have h2 := List.length_take_le k ts; have e := congrArg List.length HZ.out
            have := textsOf_len (ts.take k)
            rw [List.length_append] at e
            omega
          go_wp2_with (go_at_call 30; ((with_reducible refine (packText w1.heap.size U zs s _ hbel.size hown (by omega) hnn).mono ?_); rintro e w2 ⟨U2, z2, rfl, HZ2, hown2, hext2⟩))
          go_round
          case rel => exact ⟨k + 1, U2, z2, by omega, by go_num, rfl, by unfold Hid; rw [HZ2.out, HZ.out, HN.out, textsOf_snoc, List.append_assoc], hown2, hbel.trans (hext2.below hown.lo hbel.size), by
            rw [HN.out]; intro x hx; rcases List.mem_append.1 hx with hx | hx
            · exact hall x hx
            · simp at hx; subst hx; omega⟩
          case measure => simp [intOf]; omega
        · have hkl : k = ts.length := by omega
          subst hkl
          rw [List.take_length] at HZ hall
          go_wp2_with (go_at_call 32; ((with_reducible refine (packOpen U zs _ hown.rd).mono ?_); rintro e w2 ⟨rfl, hr2, hb2⟩; have hsz2 := hb2.size; have hlt2 := hr2.lt; have hb12 := hbel.trans (hb2.mono hbel.size)))
          have hwr1 := hbel.size
          obtain ⟨wo, rfl⟩ : ∃ wo : World, wo = wr := ⟨_, rfl⟩
          have hr2' : RAt w2 wo.heap.size ⟨numsOf m (ns.drop 0) ++ textsOf ts, 0⟩ := by rw [HZ.out] at hr2; simpa using hr2
          clear hown hbel hr2
          go_loopw [60] (fun i wr => ∃ k : Nat, k ≤ ns.length ∧ i = .int .i64 k ∧ RAt wr wo.heap.size ⟨numsOf m (ns.drop k) ++ textsOf ts, 0⟩ ∧ Below w1.heap.size w1 wr) (fun i _ => ns.length - (intOf i).toNat)
          case atStart => exact ⟨0, by omega, rfl, hr2', hb12⟩
          case round =>
            obtain ⟨k, hk, rfl, hr, hbel⟩ := hrel
            by_cases hlt : k < ns.length
            · obtain ⟨n, hn⟩ := get_of_lt hlt
              have hS' := hS1.below hbel (Nat.le_refl _)
              have hix := hS'.ix1 Try.underlying54 A_one_u64' rfl hlt
              have hcc := hS'.u64 hn
              have hnn := hns n (List.mem_of_getElem? hn)
              have hdr := drop_get hn
              have HG := Lib.hid hn; clear hn
              have hnb := num_back n hnn.1 m hm1 hm8 (numsOf m (ns.drop (k + 1)) ++ textsOf ts)
              have hr' : RAt wr wo.heap.size ⟨putNum n m ++ (numsOf m (ns.drop (k + 1)) ++ textsOf ts), 0⟩ := by
                rw [hdr] at hr
                simpa [numsOf] using hr
              have HD := Lib.hid hdr; clear hdr
              have HB := Lib.hid hnb; clear hnb
              by_cases h8 : m < 8
              · have h8' : decide ((m : Int) < 8) = true := by simp; omega
                have hwz := shl_pow m h8
                have hw0 : ¬ (IntKind.u64.wrap (2 ^ (8 * m)) = 0) := by rw [hwz]; exact Int.ne_of_gt (Int.pow_pos (by omega))
                have ht : (n % 256 ^ m != n.tmod (IntKind.u64.wrap (2 ^ (8 * m)))) = false := by rw [hwz, Int.tmod_eq_emod_of_nonneg hnn.1]; simp
                clear hwz
                go_wp2_with (go_at_call 34; ((with_reducible refine (rNum _ _ _ _ hr').mono ?_); rw [HB.out]; rintro e w3 ⟨rfl, hr3, hg3⟩))
                go_round
                case rel => exact ⟨k + 1, by omega, by go_num, hr3, hbel.grown hg3 hbel.size (fun k hk => by cases hk; omega)⟩
                case measure => simp [intOf]; omega
              · have h8' : decide ((m : Int) < 8) = false := by simp; omega
                have ht : (n % 256 ^ m != n) = false := by
                  have e : m = 8 := by omega
                  subst e
                  have e8 : (256 : Int) ^ 8 = 18446744073709551616 := by decide +kernel
                  rw [e8, Int.emod_eq_of_lt hnn.1 (by have := hnn.2; omega)]; simp
                go_wp2_with (go_at_call 34; ((with_reducible refine (rNum _ _ _ _ hr').mono ?_); rw [HB.out]; rintro e w3 ⟨rfl, hr3, hg3⟩))
                go_round
                case rel => exact ⟨k + 1, by omega, by go_num, hr3, hbel.grown hg3 hbel.size (fun k hk => by cases hk; omega)⟩
                case measure => simp [intOf]; omega
            · have hkl : k = ns.length := by omega
              subst hkl
              obtain ⟨wp, rfl⟩ : ∃ wp : World, wp = wr := ⟨_, rfl⟩
              have hr0 : RAt wp wo.heap.size ⟨textsOf (ts.drop 0), 0⟩ := by simpa [numsOf] using hr
              clear hr
              go_wp2
              go_loopw [79] (fun i wr => ∃ k : Nat, k ≤ ts.length ∧ i = .int .i64 k ∧ RAt wr wo.heap.size ⟨textsOf (ts.drop k), 0⟩ ∧ Below w1.heap.size w1 wr) (fun i _ => ts.length - (intOf i).toNat)
              case atStart => exact ⟨0, by omega, rfl, hr0, hbel⟩
              case round =>
                clear hr0 hbel
                obtain ⟨k, hk, rfl, hr, hbel⟩ := hrel
                by_cases hlt : k < ts.length
                · obtain ⟨s, hn⟩ := get_of_lt hlt
                  have hT' := hT1.below hbel (Nat.le_refl _)
                  have hix := hT'.ix1 Try.underlying55 A_one_str rfl hlt
                  have hcc := hT'.str hn
                  have hss := hall s (List.mem_of_getElem? hn)
                  have hdr := drop_get hn
                  have HG := Lib.hid hn; clear hn
                  have htb := text_back s.data.toList hss (textsOf (ts.drop (k + 1)))
                  have hr' : RAt wr wo.heap.size ⟨putText s.data.toList ++ textsOf (ts.drop (k + 1)), 0⟩ := by
                    rw [hdr] at hr
                    simpa [textsOf] using hr
                  have HD := Lib.hid hdr; clear hdr
                  have HB := Lib.hid htb; clear htb
                  have he := bs_toList s
                  go_wp2_with (go_at_call 36; ((with_reducible refine (rText _ _ _ _ hr').mono ?_); rw [HB.out, bs_toList]; rintro e w3 ⟨rfl, hr3, hg3⟩))
                  go_round
                  case rel => exact ⟨k + 1, by omega, by go_num, hr3, hbel.grown hg3 hbel.size (fun k hk => by cases hk; omega)⟩
                  case measure => simp [intOf]; omega
                · have hkl : k = ts.length := by omega
                  subst hkl
                  have hr0 : RAt wr wo.heap.size ⟨[], 0⟩ := by simpa [textsOf] using hr
                  clear hr
                  go_wp2_with (first
                    | (go_at_call 40; ((with_reducible refine (rLeft _ _ _ hr0).mono ?_); rintro e w' ⟨rfl, rfl⟩))
                    | (go_at_call 42; ((with_reducible refine (rEnd _ _ _ hr0).mono ?_); rintro e w' ⟨rfl, rfl⟩)))
                  go_ret
                  exact ⟨rfl, hb1.trans (hbel.mono hsz1)⟩

theorem own : ownKnob Try.prog.godebug = none := by kernel_rfl
theorem laidOut : laidOutB Try.prog = true := by kernel_rfl

set_option maxRecDepth 100000 in
theorem PackBack_lifted (os : Os) (started : os.Started) (H : Type) (enc : TypeId × Value → H) :
    ReturnsInHanded {} Try.checked os 8 .any (Rows.packBackSpec.pre6 enc Try.prog Try.f8 Rows.packBackRow.domain false) (Rows.packBackSpec.post enc Try.prog Try.f8 false true false false) := by
  refine returnsInHanded_of_change (C := Try.checked) own started (by kernel_rfl) Try.func8
    (ChangeSpec.witness6 (enc := enc) (C := Try.checked) false ⟨#[], #[.slice none 0 0, .slice none 0 0, .int .u8 0], []⟩ 8 (by kernel_rfl) (by kernel_rfl) (by kernel_rfl) (by kernel_rfl)) ?_
  intro W base args ds gs before hval hW _ _
  refine law_calls (s := Rows.packBackSpec) (tb := 4) laidOut (by kernel_rfl) (by kernel_rfl) Try.underlying4 rfl (fun ds h => by rw [Try.params8] at h; match ds, h with | [_, _, _], _ => rfl) hW (fun p hA => ?_)
  rw [Try.params8] at hA
  obtain ⟨hlen, harg⟩ := args_list _ _ _ _ hA (fun j t v ht hv => hval j t v (by rw [Try.params8]; simpa using ht) (by simpa using hv))
  obtain ⟨v0, v1, v2, rfl⟩ := args3 hlen
  obtain ⟨S, xs, rfl, h, hx⟩ := (harg 0 _ v0 rfl rfl).u64s Try.underlying54 (by kernel_rfl) Try.underlying22
  obtain ⟨T, ts, rfl, hT, ht⟩ := (harg 1 _ v1 rfl rfl).strs Try.underlying55 (by kernel_rfl) Try.underlying9
  obtain ⟨z, rfl⟩ := (harg 2 _ v2 rfl rfl).u8 Try.underlying5
  exact lawPackBack S xs hx T ts ht z W h hT
theorem PackBack_holds : Rows.PackBackSaid :=
  OpenClaim.holds_of_wide 8 Try.f8 rfl rfl rfl rfl rfl rfl rfl ⟨rfl, rfl, rfl, rfl, rfl⟩ rfl rfl rfl rfl rfl (by kernel_rfl) Try.func8 (by kernel_rfl)
    (of_decide_eq_true (by kernel_rfl)) (by unfold Func.isWrapper; first | (rw [if_pos (by decide +kernel)]; kernel_rfl) | (rw [if_neg (by decide +kernel)]; exact ⟨rfl, rfl⟩))
    (fun os started H enc _ => PackBack_lifted os started H enc)
#print axioms PackBack_holds
end Go.Proofs.Ytmnedkhkphnbhaa
