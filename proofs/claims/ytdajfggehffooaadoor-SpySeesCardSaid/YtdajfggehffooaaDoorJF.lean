/-
  This text lays down, in plain lists, how a session is asked for and answered: hellos, welcomes, their tags and bytes; no condition.
  This text lays down, in plain lists, which hello, welcome or reset any bytes are, and that what was put is taken as it was; no condition.
  This text proves, in plain lists, what HelloBack says: what is greeted checks, what is answered agrees, and with one byte of its tag changed it does not; no condition.
  This text proves, in plain lists, what the example of chapter 17 says; no condition.
-/
import Derived.Test.YtdajfggehffooaaDoorRows
import Derived.Test.YtdajfggehffooaaDoorJA
import Derived.Test.YtdajfggehffooaaDoorJB
import Derived.Test.YtdajfggehffooaaDoorJC
import Derived.Test.YtdajfggehffooaaDoorJD
import Derived.Test.YtdajfggehffooaaDoorJE
section
set_option linter.unusedSimpArgs false
set_option linter.unusedVariables false

namespace Go.Proofs.YtdajfggehffooaaDoor
open Go.RowKit

structure Helo where
  to : ByteArray
  nonce : Int
  entry : Entry
  tag : ByteArray
  deriving DecidableEq
structure Welc where
  one : Int
  two : Int
  entry : Entry
  tag : ByteArray
  deriving DecidableEq
abbrev Helo.zero : Helo := ⟨⟨#[]⟩, 0, Entry.zero, ⟨#[]⟩⟩
abbrev Welc.zero : Welc := ⟨0, 0, Entry.zero, ⟨#[]⟩⟩
abbrev Helo.arr (h : Helo) : Array Value := #[.string h.to, .int .u64 h.nonce, .string h.entry.name, .int .u64 h.entry.id, .int .i64 h.entry.frm, .int .i64 h.entry.unt, .int .i64 h.entry.idx, .string h.entry.tag, .string h.tag]
abbrev Welc.arr (h : Welc) : Array Value := #[.int .u64 h.one, .int .u64 h.two, .string h.entry.name, .int .u64 h.entry.id, .int .i64 h.entry.frm, .int .i64 h.entry.unt, .int .i64 h.entry.idx, .string h.entry.tag, .string h.tag]
abbrev Helo.val (h : Helo) : Value := .agg h.arr
abbrev Welc.val (h : Welc) : Value := .agg h.arr
structure Helo.Ok (h : Helo) : Prop where
  to : h.to.size ≤ 9223372036854775807
  nonce : U64 h.nonce
  entry : h.entry.Ok
  tag : h.tag.size ≤ 9223372036854775807
structure Welc.Ok (h : Welc) : Prop where
  one : U64 h.one
  two : U64 h.two
  entry : h.entry.Ok
  tag : h.tag.size ≤ 9223372036854775807
theorem Var.nine {w : World} {b : Nat} {a0 a1 a2 a3 a4 a5 a6 a7 a8 : Value} (h : Var w b #[a0, a1, a2, a3, a4, a5, a6, a7, a8]) : b < w.heap.size ∧ w.cell? ⟨b, 0, none⟩ = some a0 ∧ w.cell? ⟨b, 1, none⟩ = some a1 ∧ w.cell? ⟨b, 2, none⟩ = some a2 ∧ w.cell? ⟨b, 3, none⟩ = some a3 ∧ w.cell? ⟨b, 4, none⟩ = some a4 ∧ w.cell? ⟨b, 5, none⟩ = some a5 ∧ w.cell? ⟨b, 6, none⟩ = some a6 ∧ w.cell? ⟨b, 7, none⟩ = some a7 ∧ w.cell? ⟨b, 8, none⟩ = some a8 :=
  ⟨h.lt, h.cell 0, h.cell 1, h.cell 2, h.cell 3, h.cell 4, h.cell 5, h.cell 6, h.cell 7, h.cell 8⟩
theorem Var.frees9 {w : World} {b : Nat} {cs : Array Value} (h : Var w b cs) : w.frozen? ⟨b, 0, none⟩ = false ∧ w.frozen? ⟨b, 1, none⟩ = false ∧ w.frozen? ⟨b, 2, none⟩ = false ∧ w.frozen? ⟨b, 3, none⟩ = false ∧ w.frozen? ⟨b, 4, none⟩ = false ∧ w.frozen? ⟨b, 5, none⟩ = false ∧ w.frozen? ⟨b, 6, none⟩ = false ∧ w.frozen? ⟨b, 7, none⟩ = false ∧ w.frozen? ⟨b, 8, none⟩ = false :=
  ⟨h.free 0, h.free 1, h.free 2, h.free 3, h.free 4, h.free 5, h.free 6, h.free 7, h.free 8⟩
/-! ### tags -/
abbrev titleH : List UInt8 := [99, 97, 114, 99, 97, 110, 101, 116, 32, 104, 101, 108, 108, 111]
abbrev titleW : List UInt8 := [99, 97, 114, 99, 97, 110, 101, 116, 32, 119, 101, 108, 99, 111, 109, 101]
def msgH (to : ByteArray) (nonce : Int) (e : Entry) : List UInt8 := ((titleH ++ putText to.data.toList) ++ putNum nonce 8) ++ putText e.bytes
def msgW (one two : Int) (asker own : Entry) : List UInt8 := (((titleW ++ putNum one 8) ++ putNum two 8) ++ putText asker.bytes) ++ putText own.bytes
def tagH (psk : List UInt8) (to : ByteArray) (nonce : Int) (e : Entry) : List UInt8 := macF psk (msgH to nonce e)
def tagW (psk : List UInt8) (one two : Int) (asker own : Entry) : List UInt8 := macF psk (msgW one two asker own)
def greetF (psk : List UInt8) (to : ByteArray) (nonce : Int) (e : Entry) : Helo := ⟨to, nonce, e, bs (tagH psk to nonce e)⟩
def answerF (psk : List UInt8) (h : Helo) (two : Int) (own : Entry) : Welc := ⟨h.nonce, two, own, bs (tagW psk h.nonce two h.entry own)⟩
def checksF (psk : List UInt8) (h : Helo) : Bool := decide (h.tag = bs (tagH psk h.to h.nonce h.entry))
def agreesF (psk : List UInt8) (v : Welc) (asker : Entry) : Bool := decide (v.tag = bs (tagW psk v.one v.two asker v.entry))
theorem checksF_eq (psk : List UInt8) (h : Helo) : decide (greetF psk h.to h.nonce h.entry = h) = checksF psk h := by
  unfold checksF greetF
  rw [Bool.eq_iff_iff]
  simp only [decide_eq_true_eq]
  constructor
  · intro e; exact (congrArg Helo.tag e).symm
  · intro e; rw [← e]
theorem agreesF_eq (psk : List UInt8) (v : Welc) (asker : Entry) : decide (answerF psk ⟨⟨#[]⟩, v.one, asker, ⟨#[]⟩⟩ v.two v.entry = v) = agreesF psk v asker := by
  unfold agreesF answerF
  rw [Bool.eq_iff_iff]
  simp only [decide_eq_true_eq]
  constructor
  · intro e; exact (congrArg Welc.tag e).symm
  · intro e; rw [← e]
/-! ### may they be; their bytes -/
def Helo.right (h : Helo) : Bool := nameOk h.to.data.toList && decide (h.nonce ≠ 0) && h.entry.right && decide (h.tag.size = 32)
def Welc.right (h : Welc) : Bool := decide (h.one ≠ 0) && decide (h.two ≠ 0) && h.entry.right && decide (h.tag.size = 32)
def Helo.bytes (h : Helo) : List UInt8 := ((([1] ++ putText h.to.data.toList) ++ putNum h.nonce 8) ++ putText h.entry.bytes) ++ h.tag.data.toList
def Welc.bytes (h : Welc) : List UInt8 := ((([2] ++ putNum h.one 8) ++ putNum h.two 8) ++ putText h.entry.bytes) ++ h.tag.data.toList
def kindF (l : List UInt8) : Int := match l with | [] => 0 | c :: _ => if 1 ≤ c.toNat ∧ c.toNat ≤ 4 then c.toNat else 0
theorem bytes_small {e : Entry} (h1 : e.name.size ≤ 1000) (h2 : e.tag.size ≤ 1000) : e.bytes.length ≤ 3000 := by
  unfold Entry.bytes Entry.body
  have := putNum_length e.id 8
  have := putNum_length (u64of e.frm) 4
  have := putNum_length (u64of e.unt) 4
  have := putNum_length (u64of e.idx) 2
  have h3 : (putText e.name.data.toList).length ≤ e.name.size + 8 := by
    unfold putText
    have := putNum_length ((e.name.data.toList.take 65535).length : Int) 2
    have h4 : (e.name.data.toList.take 65535).length ≤ e.name.size := by rw [List.length_take]; exact Nat.min_le_right _ _
    rw [List.length_append]; omega
  have h5 : e.tag.data.toList.length = e.tag.size := rfl
  simp only [List.length_append]
  omega
theorem putText_le (l : List UInt8) : (putText l).length ≤ l.length + 8 := by
  unfold putText
  have := putNum_length ((l.take 65535).length : Int) 2
  have h4 : (l.take 65535).length ≤ l.length := by rw [List.length_take]; exact Nat.min_le_right _ _
  rw [List.length_append]; omega
end Go.Proofs.YtdajfggehffooaaDoor
end
section
set_option linter.unusedSimpArgs false
set_option linter.unusedVariables false

namespace Go.Proofs.YtdajfggehffooaaDoor
open Go.RowKit

/-- what is read of a hello, one behind the other -/
structure TakH where
  a : List UInt8 × Rdr
  b : Int × Rdr
  c : List UInt8 × Rdr
  d : List UInt8 × Rdr
structure TakW where
  a : Int × Rdr
  b : Int × Rdr
  c : List UInt8 × Rdr
  d : List UInt8 × Rdr
def takH (l : List UInt8) : TakH :=
  let a := (Rdr.mk l 0).text 16
  let b := a.2.num 8
  let c := b.2.text 128
  let d := c.2.raw 32
  ⟨a, b, c, d⟩
def takW (l : List UInt8) : TakW :=
  let a := (Rdr.mk l 0).num 8
  let b := a.2.num 8
  let c := b.2.text 128
  let d := c.2.raw 32
  ⟨a, b, c, d⟩
def TakH.helo (t : TakH) : Helo := ⟨bs t.a.1, t.b.1, (entryOf t.c.1).1, bs t.d.1⟩
def TakW.welc (t : TakW) : Welc := ⟨t.a.1, t.b.1, (entryOf t.c.1).1, bs t.d.1⟩
/-- an entry's text and a tag, up to the end -/
def restOf (c d : List UInt8 × Rdr) : Entry × List UInt8 × Int :=
  if d.2.fin ≠ 0 then (Entry.zero, [], d.2.fin) else if (entryOf c.1).2 ≠ 0 then (Entry.zero, [], 11) else ((entryOf c.1).1, d.1, 0)
def takeH (l : List UInt8) : Helo × Int :=
  if kindF l ≠ 1 then (Helo.zero, 13) else
  if (takH (l.drop 1)).d.2.fin ≠ 0 then (Helo.zero, (takH (l.drop 1)).d.2.fin) else
  if (entryOf (takH (l.drop 1)).c.1).2 ≠ 0 then (Helo.zero, 11) else
  if (takH (l.drop 1)).helo.right then ((takH (l.drop 1)).helo, 0) else (Helo.zero, 11)
def takeW (l : List UInt8) : Welc × Int :=
  if kindF l ≠ 2 then (Welc.zero, 13) else
  if (takW (l.drop 1)).d.2.fin ≠ 0 then (Welc.zero, (takW (l.drop 1)).d.2.fin) else
  if (entryOf (takW (l.drop 1)).c.1).2 ≠ 0 then (Welc.zero, 11) else
  if (takW (l.drop 1)).welc.right then ((takW (l.drop 1)).welc, 0) else (Welc.zero, 11)
def takeR (l : List UInt8) : Int × Int :=
  if kindF l ≠ 4 then (0, 13) else
  if ((Rdr.mk (l.drop 1) 0).num 8).2.fin ≠ 0 then (0, ((Rdr.mk (l.drop 1) 0).num 8).2.fin) else
  if ((Rdr.mk (l.drop 1) 0).num 8).1 = 0 then (0, 11) else (((Rdr.mk (l.drop 1) 0).num 8).1, 0)
theorem bytes_128 {e : Entry} (h : e.right = true) : e.bytes.length ≤ 128 := by
  obtain ⟨h1, _, _, _, _, _, h7⟩ := right_parts h
  have hn := nameOk_len h1
  unfold Entry.bytes Entry.body
  have := putNum_length e.id 8
  have := putNum_length (u64of e.frm) 4
  have := putNum_length (u64of e.unt) 4
  have := putNum_length (u64of e.idx) 2
  have := putText_le e.name.data.toList
  have h5 : e.tag.data.toList.length = e.tag.size := rfl
  simp only [List.length_append]
  omega
theorem Helo.right_parts {h : Helo} (hr : h.right = true) : nameOk h.to.data.toList = true ∧ h.nonce ≠ 0 ∧ h.entry.right = true ∧ h.tag.size = 32 := by
  unfold Helo.right at hr
  simp only [Bool.and_eq_true, decide_eq_true_eq] at hr
  exact ⟨hr.1.1.1, hr.1.1.2, hr.1.2, hr.2⟩
theorem Welc.right_parts {h : Welc} (hr : h.right = true) : h.one ≠ 0 ∧ h.two ≠ 0 ∧ h.entry.right = true ∧ h.tag.size = 32 := by
  unfold Welc.right at hr
  simp only [Bool.and_eq_true, decide_eq_true_eq] at hr
  exact ⟨hr.1.1.1, hr.1.1.2, hr.1.2, hr.2⟩
theorem p8_256 : (256 : Int) ^ (8 : Nat) = 18446744073709551616 := by decide +kernel
theorem hello_back {h : Helo} (ok : h.Ok) (hr : h.right = true) : takeH h.bytes = (h, 0) := by
  obtain ⟨h1, h2, h3, h4⟩ := Helo.right_parts hr
  have hn := nameOk_len h1
  have hb : h.bytes = 1 :: (putText h.to.data.toList ++ (putNum h.nonce ((8 : Nat) : Int) ++ (putText h.entry.bytes ++ (h.tag.data.toList ++ [])))) := by
    unfold Helo.bytes
    simp only [List.append_assoc, List.append_nil]
    rfl
  have hk : kindF h.bytes = 1 := by rw [hb]; rfl
  have hd : h.bytes.drop 1 = putText h.to.data.toList ++ (putNum h.nonce ((8 : Nat) : Int) ++ (putText h.entry.bytes ++ (h.tag.data.toList ++ []))) := by rw [hb]; rfl
  have ra : (takH (h.bytes.drop 1)).a = (h.to.data.toList, ⟨putNum h.nonce ((8 : Nat) : Int) ++ (putText h.entry.bytes ++ (h.tag.data.toList ++ [])), 0⟩) := by
    rw [hd]; exact text_back' h.to.data.toList 16 hn (by omega) _
  have rb : (takH (h.bytes.drop 1)).b = (h.nonce, ⟨putText h.entry.bytes ++ (h.tag.data.toList ++ []), 0⟩) := by
    show (takH (h.bytes.drop 1)).a.2.num ((8 : Nat) : Int) = _
    rw [ra]; exact num_back' h.nonce 8 (by omega) (by omega) ok.nonce.1 (by rw [p8_256]; have := ok.nonce.2; omega) _
  have rc : (takH (h.bytes.drop 1)).c = (h.entry.bytes, ⟨h.tag.data.toList ++ [], 0⟩) := by
    show (takH (h.bytes.drop 1)).b.2.text ((128 : Nat) : Int) = _
    rw [rb]; exact text_back' h.entry.bytes 128 (bytes_128 h3) (by omega) _
  have rd : (takH (h.bytes.drop 1)).d = (h.tag.data.toList, ⟨[], 0⟩) := by
    show (takH (h.bytes.drop 1)).c.2.raw 32 = _
    rw [rc]
    have := raw_back h.tag.data.toList []
    rw [size_toList, h4] at this
    exact this
  have he := read_bytes ok.entry h3
  have hh : (takH (h.bytes.drop 1)).helo = h := by
    unfold TakH.helo
    rw [ra, rb, rc, rd, he]
    simp only [bs_toList]
  unfold takeH
  rw [hh, rd, rc, he, hk, if_neg (by simp), if_neg (by simp [Rdr.fin]), if_neg (by simp), if_pos hr]
theorem takW_b (l : List UInt8) : (takW l).b = (takW l).a.2.num 8 := by simp only [takW]
theorem takW_c (l : List UInt8) : (takW l).c = (takW l).b.2.text 128 := by simp only [takW]
theorem takW_d (l : List UInt8) : (takW l).d = (takW l).c.2.raw 32 := by simp only [takW]
theorem n8 : ((8 : Nat) : Int) = 8 := rfl
theorem n128 : ((128 : Nat) : Int) = 128 := rfl
theorem welcome_back {h : Welc} (ok : h.Ok) (hr : h.right = true) : takeW h.bytes = (h, 0) := by
  obtain ⟨h1, h2, h3, h4⟩ := Welc.right_parts hr
  have hb : h.bytes = 2 :: (putNum h.one ((8 : Nat) : Int) ++ (putNum h.two ((8 : Nat) : Int) ++ (putText h.entry.bytes ++ (h.tag.data.toList ++ [])))) := by
    unfold Welc.bytes
    simp only [List.append_assoc, List.append_nil]
    rfl
  have hk : kindF h.bytes = 2 := by rw [hb]; rfl
  have hd : h.bytes.drop 1 = putNum h.one ((8 : Nat) : Int) ++ (putNum h.two ((8 : Nat) : Int) ++ (putText h.entry.bytes ++ (h.tag.data.toList ++ []))) := by rw [hb]; rfl
  have ra : (takW (h.bytes.drop 1)).a = (h.one, ⟨putNum h.two ((8 : Nat) : Int) ++ (putText h.entry.bytes ++ (h.tag.data.toList ++ [])), 0⟩) := by
    rw [hd]; exact num_back' h.one 8 (by omega) (by omega) ok.one.1 (by rw [p8_256]; have := ok.one.2; omega) _
  have rb : (takW (h.bytes.drop 1)).b = (h.two, ⟨putText h.entry.bytes ++ (h.tag.data.toList ++ []), 0⟩) := by
    rw [takW_b, ra, ← n8]; exact num_back' h.two 8 (by omega) (by omega) ok.two.1 (by rw [p8_256]; have := ok.two.2; omega) _
  have rc : (takW (h.bytes.drop 1)).c = (h.entry.bytes, ⟨h.tag.data.toList ++ [], 0⟩) := by
    rw [takW_c, rb, ← n128]; exact text_back' h.entry.bytes 128 (bytes_128 h3) (by omega) _
  have rd : (takW (h.bytes.drop 1)).d = (h.tag.data.toList, ⟨[], 0⟩) := by
    rw [takW_d, rc]
    have := raw_back h.tag.data.toList []
    rw [size_toList, h4] at this
    exact this
  have he := read_bytes ok.entry h3
  have hh : (takW (h.bytes.drop 1)).welc = h := by
    unfold TakW.welc
    rw [ra, rb, rc, rd, he]
    simp only [bs_toList]
  unfold takeW
  rw [hh, rd, rc, he, hk, if_neg (by simp), if_neg (by simp [Rdr.fin]), if_neg (by simp), if_pos hr]
end Go.Proofs.YtdajfggehffooaaDoor
end
section
set_option linter.unusedSimpArgs false
set_option linter.unusedVariables false

namespace Go.Proofs.YtdajfggehffooaaDoor
open Go.RowKit

theorem tagH_length (psk : List UInt8) (to : ByteArray) (nonce : Int) (e : Entry) : (tagH psk to nonce e).length = 32 := macF_length _ _
theorem tagW_length (psk : List UInt8) (one two : Int) (a e : Entry) : (tagW psk one two a e).length = 32 := macF_length _ _
theorem bsL_inj {a b : List UInt8} (h : bs a = bs b) : a = b := by
  have := congrArg (fun s : ByteArray => s.data.toList) h
  simpa [toList_bs] using this
theorem checks_greet (psk : List UInt8) (to : ByteArray) (nonce : Int) (e : Entry) : checksF psk (greetF psk to nonce e) = true := by
  unfold checksF greetF; simp
theorem agrees_answer (psk : List UInt8) (h : Helo) (two : Int) (own : Entry) : agreesF psk (answerF psk h two own) h.entry = true := by
  unfold agreesF answerF; simp
theorem checks_turn (psk : List UInt8) (to : ByteArray) (nonce : Int) (e : Entry) (t : List UInt8) : checksF psk ⟨to, nonce, e, bs t⟩ = decide (t = tagH psk to nonce e) := by
  unfold checksF
  rw [Bool.eq_iff_iff, decide_eq_true_eq, decide_eq_true_eq]
  exact ⟨bsL_inj, fun h => by rw [h]⟩
theorem agrees_turn (psk : List UInt8) (one two : Int) (a e : Entry) (t : List UInt8) : agreesF psk ⟨one, two, e, bs t⟩ a = decide (t = tagW psk one two a e) := by
  unfold agreesF
  rw [Bool.eq_iff_iff, decide_eq_true_eq, decide_eq_true_eq]
  exact ⟨bsL_inj, fun h => by rw [h]⟩
theorem answer_right (psk : List UInt8) (h : Helo) (two : Int) (own : Entry) : (answerF psk h two own).right = (decide (h.nonce ≠ 0) && decide (two ≠ 0) && own.right) := by
  unfold Welc.right answerF
  rw [show (bs (tagW psk h.nonce two h.entry own)).size = 32 by rw [bs_size, tagW_length]]
  simp
end Go.Proofs.YtdajfggehffooaaDoor
end
section
set_option linter.unusedSimpArgs false
set_option linter.unusedVariables false

namespace Go.Proofs.YtdajfggehffooaaDoor
open Go.RowKit

abbrev pskL : List UInt8 := [112, 115, 107]
abbrev pslL : List UInt8 := [112, 115, 108]
abbrev exE : Entry := ⟨⟨#[97]⟩, 0, 0, 0, 0, bs (List.replicate 32 0)⟩
theorem exE_ok : exE.Ok := ⟨by decide, ⟨by decide, by decide⟩, ⟨by decide, by decide⟩, ⟨by decide, by decide⟩, ⟨by decide, by decide⟩, by decide⟩
theorem exE_right : exE.right = true := by decide +kernel
theorem psl_not : tagH pskL ⟨#[98]⟩ 7 exE ≠ tagH pslL ⟨#[98]⟩ 7 exE := by decide +kernel
theorem ex_reset : ([4] : List UInt8) ++ putNum 5 8 = [4, 0, 0, 0, 0, 0, 0, 0, 5] := by decide +kernel
abbrev exH : Helo := greetF pskL ⟨#[98]⟩ 7 exE
theorem greet_right (psk : List UInt8) (to : ByteArray) (n : Int) (e : Entry) : (greetF psk to n e).right = (nameOk to.data.toList && decide (n ≠ 0) && e.right) := by
  unfold Helo.right greetF
  rw [show (bs (tagH psk to n e)).size = 32 by rw [bs_size, tagH_length]]
  simp
theorem greet_ok {psk : List UInt8} {to : ByteArray} {n : Int} {e : Entry} (hto : to.size ≤ 9223372036854775807) (hn : U64 n) (he : e.Ok) : (greetF psk to n e).Ok :=
  ⟨hto, hn, he, by show (bs (tagH psk to n e)).size ≤ _; rw [bs_size, tagH_length]; omega⟩
theorem answer_ok {psk : List UInt8} {h : Helo} {n : Int} {e : Entry} (hh : h.Ok) (hn : U64 n) (he : e.Ok) : (answerF psk h n e).Ok :=
  ⟨hh.nonce, hn, he, by show (bs (tagW psk h.nonce n h.entry e)).size ≤ _; rw [bs_size, tagW_length]; omega⟩
theorem exH_ok : exH.Ok := greet_ok (by decide) ⟨by decide, by decide⟩ exE_ok
theorem exH_right : exH.right = true := by rw [greet_right, exE_right]; decide
theorem exH_not : checksF pslL exH = false := by
  have := checks_turn pslL ⟨#[98]⟩ 7 exE (tagH pskL ⟨#[98]⟩ 7 exE)
  rw [show exH = ⟨⟨#[98]⟩, 7, exE, bs (tagH pskL ⟨#[98]⟩ 7 exE)⟩ from rfl, this]
  exact decide_eq_false psl_not
theorem hello_kind (h : Helo) : kindF h.bytes = 1 := by
  unfold Helo.bytes
  simp only [List.append_assoc]
  rfl
end Go.Proofs.YtdajfggehffooaaDoor
end
