import Derived.Handy
import Derived.Test.YtklnmipimoncmaaRows
import Derived.Test.YtklnmipimoncmaaLib
import Derived.Test.YtklnmipimoncmaaLibB
import Derived.Test.YtklnmipimoncmaaEnts
import Derived.Test.YtklnmipimoncmaaPackA
import Derived.Test.YtklnmipimoncmaaPackR
import Derived.Test.YtklnmipimoncmaaPackS
import Derived.Test.YtklnmipimoncmaaPackT
import Derived.Test.YtklnmipimoncmaaPackU
import Derived.Test.YtklnmipimoncmaaEntA
import Derived.Test.YtklnmipimoncmaaEntB
import Derived.Test.YtklnmipimoncmaaEntC
import Derived.Test.YtklnmipimoncmaaEntD
import Derived.Test.YtklnmipimoncmaaEntE
import Derived.Test.YtklnmipimoncmaaEntF
import Derived.Test.YtklnmipimoncmaaEntQ
import Derived.Test.YtklnmipimoncmaaEntH
set_option linter.unusedSimpArgs false
set_option linter.unusedVariables false

namespace Go.Proofs.Ytklnmipimoncmaa
open Go.RowKit

def wE : Entry := ⟨⟨#[97]⟩, 258, 1, 2, 3, bs (List.replicate 32 0)⟩
abbrev wZ (z : List UInt8) : Entry := ⟨⟨#[97]⟩, 258, 1, 2, 3, bs z⟩
theorem wE_read : entryOf wE.bytes = (wE, 0) := by decide +kernel
theorem wE_right : wE.right = true := by decide +kernel
theorem wE_body : wE.body = [0, 1, 97, 0, 0, 0, 0, 0, 0, 1, 2, 0, 0, 0, 1, 0, 0, 0, 2, 0, 3] := by decide +kernel
theorem wE_find : findE [wE] ⟨#[98]⟩ = -1 := by decide +kernel
theorem wE_who : wE.who wE = true := by decide +kernel
theorem wE_ok : wE.Ok := ⟨by decide, ⟨by decide, by decide⟩, ⟨by decide, by decide⟩, ⟨by decide, by decide⟩, ⟨by decide, by decide⟩, by decide +kernel⟩
theorem wZ_eq {z : List UInt8} (h : z = List.replicate 32 0) : wZ z = wE := by rw [h]; rfl

set_option maxHeartbeats 1000000 in
theorem entWorks (w : World) : Calls Try.prog 33 #[] w fun e w' => e = .returned (.bool true) ∧ Below w.heap.size w w' := by
  obtain ⟨F, G, z, HZ, hmk0, hF⟩ := makeFn rowU8 (P := Try.prog) (T := 22) (x := 0) 32 Try.underlying22 A_u8 rfl rfl (by decide) (by decide)
  have hmk : ∀ w, (Instr.makeSlice 22 (.int .i64 32) (.int .i64 32)).run Try.prog w = .ok (.slice (F w).p z.length (F w).c) (G w) := hmk0
  clear hmk0
  have hcv := (hF w).1.rd.toStr (P := Try.prog) (src := 22) (dst := 9) Try.underlying22 A_u8und Try.underlying9
  have hb0 := (hF w).2
  have hwz := wZ_eq HZ.out
  have hok : (wZ z).Ok := by rw [hwz]; exact wE_ok
  have hgr : (wZ z).tag.size ≤ 1000 := by rw [hwz]; decide +kernel
  have hright : (wZ z).right = true := by rw [hwz]; exact wE_right
  have hfind : findE [wZ z] ⟨#[98]⟩ = -1 := by rw [hwz]; exact wE_find
  have hwho : (wZ z).who (wZ z) = true := by rw [hwz]; exact wE_who
  have hread : entryOf (wZ z).bytes = (wZ z, 0) := by rw [hwz]; exact wE_read
  have hbody : (wZ z).body = [0, 1, 97, 0, 0, 0, 0, 0, 0, 1, 2, 0, 0, 0, 1, 0, 0, 0, 2, 0, 3] := by rw [hwz]; exact wE_body
  have heq : ∀ w, (binOp .eql 45 (.agg (wZ z).arr) (.agg (wZ z).arr)).run Try.prog w = .ok (.bool true) w := fun w => by have := eqEntry (wZ z) (wZ z) w; simpa using this
  have hv := Var.made (G w) (wZ z).arr 45 rfl
  have hb1 := hb0.alloc hb0.size (.cells (wZ z).arr 45)
  clear hwz hF
  go_enter Try.func33, Try.ntmps33
  go_wp2_with (first
    | (go_at_call 38; refine (entBytes (wZ z) hok hgr _).mono ?_; rintro r w2 ⟨S2, z2, rfl, HZ2, hown2, hB2⟩; have hv2 := hv.below hB2 hv.lt; have hr2 := entRead S2 z2 w2 hown2.rd; rw [HZ2.out, hread] at hr2; have hb2 := hb1.trans (hB2.mono hb1.size))
    | (go_at_call 40; rw [← HZ2.out] at hr2; refine hr2.mono ?_; rintro r w3 ⟨rfl, hB3⟩; have hv3 := (hv2.below hB3 hv2.lt).alloc (.cells (wZ z).arr 45); have hx3 := Var.made w3 (wZ z).arr 45 rfl; have hb3 := (hb2.trans (hB3.mono hb2.size)).alloc (hb2.trans (hB3.mono hb2.size)).size (.cells (wZ z).arr 45); obtain ⟨_, g30, g31, g32, g33, g34, g35⟩ := hv3.entry; obtain ⟨_, x30, x31, x32, x33, x34, x35⟩ := hx3.entry)
    | (go_at_call 36; refine (entBody (wZ z) hok _).mono ?_; rintro r w4 ⟨S4, z4, rfl, HZ4, hown4, hB4⟩; have hv4 := hv3.below hB4 hv3.lt; have hx4 := hx3.below hB4 hx3.lt; have hb4 := hb3.trans (hB4.mono hb3.size); obtain ⟨_, g40, g41, g42, g43, g44, g45⟩ := hv4.entry; obtain ⟨_, x40, x41, x42, x43, x44, x45⟩ := hx4.entry; have hcv4 := hown4.rd.toStr (P := Try.prog) (src := 22) (dst := 9) Try.underlying22 A_u8und Try.underlying9; have hz4 : ((bs z4).toList == [0, 1, 97, 0, 0, 0, 0, 0, 0, 1, 2, 0, 0, 0, 1, 0, 0, 0, 2, 0, 3]) = true := (by rw [bs_toList', HZ4.out, hbody]; decide))
    | (go_at_call 34; refine (entRight (wZ z) hok _).mono ?_; rw [hright]; rintro r w5 ⟨rfl, hB5⟩; have hv5 := hv4.below hB5 hv4.lt; have hx5 := hx4.below hB5 hx4.lt; have hb5 := hb4.trans (hB5.mono hb4.size); obtain ⟨_, g50, g51, g52, g53, g54, g55⟩ := hv5.entry; obtain ⟨_, x50, x51, x52, x53, x54, x55⟩ := hx5.entry; have hl5 : Own rowEntry (w5.alloc (.cells (wZ z).arr 45)) w5.heap.size ⟨some ⟨w5.heap.size, 0, none⟩, 1, w5.heap.size, 0⟩ [wZ z] := Own.lit w5 _ _ [wZ z] (by simp) rfl (Nat.le_refl _))
    | (go_at_call 44; refine (entFind ⟨some ⟨w5.heap.size, 0, none⟩, 1, w5.heap.size, 0⟩ [wZ z] _ _ hl5.rd).mono ?_; rw [hfind]; rintro r w6 ⟨rfl, hB6⟩; have hv6 := (hv5.alloc (.cells (wZ z).arr 45)).below hB6 (by have := hv5.lt; simp; omega); have hx6 := (hx5.alloc (.cells (wZ z).arr 45)).below hB6 (by have := hx5.lt; simp; omega); have hb5a := hb5.alloc hb5.size (.cells (wZ z).arr 45); have hb6 := hb5a.trans (hB6.mono hb5a.size); obtain ⟨_, g60, g61, g62, g63, g64, g65⟩ := hv6.entry; obtain ⟨_, x60, x61, x62, x63, x64, x65⟩ := hx6.entry)
    | (go_at_call 42; refine (entWho (wZ z) (wZ z) _).mono ?_; rw [hwho]; rintro r w7 ⟨rfl, hB7⟩; have hb7 := hb6.trans (hB7.mono hb6.size)))
  go_ret
  exact ⟨rfl, hb7⟩
end Go.Proofs.Ytklnmipimoncmaa
