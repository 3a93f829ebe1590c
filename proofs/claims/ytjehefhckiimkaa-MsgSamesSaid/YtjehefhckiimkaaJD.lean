/-
  This text lays down, in plain lists, what messages are, which fields a kind has, how they are written and read (chapter 16); no condition.
  This text proves, in plain lists, that a message that may be is taken as it was put, and that what is taken may be, and is put as it was; no condition.
-/
import Derived.Test.YtjehefhckiimkaaRows
import Derived.Test.YtjehefhckiimkaaJA
import Derived.Test.YtjehefhckiimkaaJB
import Derived.Test.YtjehefhckiimkaaJC
section
set_option linter.unusedSimpArgs false
set_option linter.unusedVariables false

namespace Go.Proofs.Ytjehefhckiimkaa
open Go.RowKit

structure Item where
  key : ByteArray
  val : ByteArray
  ver : Int
  gone : Bool
  deriving DecidableEq
structure Msg where
  kind : Int
  rid : Int
  ver : Int
  err : Int
  id : Int
  has : Bool
  gone : Bool
  key : ByteArray
  val : ByteArray
  ents : List Entry
  items : List Item
  deriving DecidableEq
abbrev Item.zero : Item := ⟨⟨#[]⟩, ⟨#[]⟩, 0, false⟩
abbrev Msg.zero : Msg := ⟨0, 0, 0, 0, 0, false, false, ⟨#[]⟩, ⟨#[]⟩, [], []⟩
abbrev Item.arr (x : Item) : Array Value := #[.string x.key, .string x.val, .int .i64 x.ver, .bool x.gone]
abbrev Item.val' (x : Item) : Value := .agg x.arr
structure Item.Ok (x : Item) : Prop where
  key : x.key.size ≤ 9223372036854775807
  val : x.val.size ≤ 9223372036854775807
  ver : I64 x.ver
def rowItem : RowOf Item := ⟨fun x => x.arr.toList, 4, by decide, fun _ => rfl, fun x u hu => by simp at hu; rcases hu with rfl | rfl | rfl | rfl <;> rfl⟩
/-- a message, its lists at S and T -/
abbrev Msg.arr (m : Msg) (S T : Sl) : Array Value := #[.int .i64 m.kind, .int .i64 m.rid, .int .i64 m.ver, .int .i64 m.err, .int .u64 m.id, .bool m.has, .bool m.gone, .string m.key, .string m.val, .slice S.p m.ents.length S.c, .slice T.p m.items.length T.c]
abbrev Msg.val' (m : Msg) (S T : Sl) : Value := .agg (m.arr S T)
structure Msg.Ok (m : Msg) : Prop where
  kind : I64 m.kind
  rid : I64 m.rid
  ver : I64 m.ver
  err : I64 m.err
  id : U64 m.id
  key : m.key.size ≤ 9223372036854775807
  val : m.val.size ≤ 9223372036854775807
  ents : ∀ e ∈ m.ents, e.Ok
  items : ∀ e ∈ m.items, e.Ok
/-! ### which fields a kind has -/
inductive Fd | r | h | g | i | n | k | v | e | t
  deriving DecidableEq
def Fd.all : List Fd := [.r, .h, .g, .i, .n, .k, .v, .e, .t]
def kindL : List (List Fd) := [[], [], [], [], [.h, .e], [], [.i], [.e], [.g, .k, .v], [.r, .n], [.k], [.r, .h, .g, .n, .v], [.t], [.r], [.i], [.r, .t], []]
def isKind (kind : Int) : Bool := decide (1 ≤ kind) && decide (kind ≤ 16)
def fdsOf (kind : Int) : List Fd := if isKind kind then kindL.getD kind.toNat [] else []
def hasF (kind : Int) (c : Fd) : Bool := decide (c ∈ fdsOf kind)
theorem kind_cases {kind : Int} (h : isKind kind = true) : kind = 1 ∨ kind = 2 ∨ kind = 3 ∨ kind = 4 ∨ kind = 5 ∨ kind = 6 ∨ kind = 7 ∨ kind = 8 ∨ kind = 9 ∨ kind = 10 ∨ kind = 11 ∨ kind = 12 ∨ kind = 13 ∨ kind = 14 ∨ kind = 15 ∨ kind = 16 := by
  unfold isKind at h
  simp only [Bool.and_eq_true, decide_eq_true_eq] at h
  omega
theorem isKind_false {kind : Int} (h : kind ≠ 1 ∧ kind ≠ 2 ∧ kind ≠ 3 ∧ kind ≠ 4 ∧ kind ≠ 5 ∧ kind ≠ 6 ∧ kind ≠ 7 ∧ kind ≠ 8 ∧ kind ≠ 9 ∧ kind ≠ 10 ∧ kind ≠ 11 ∧ kind ≠ 12 ∧ kind ≠ 13 ∧ kind ≠ 14 ∧ kind ≠ 15 ∧ kind ≠ 16) : isKind kind = false := by
  unfold isKind
  rw [Bool.and_eq_false_iff, decide_eq_false_iff_not, decide_eq_false_iff_not]
  omega
/-- the fields of a kind, in the order in which they are written -/
theorem fds_filter (kind : Int) : fdsOf kind = Fd.all.filter (hasF kind) := by
  by_cases h : isKind kind = true
  · rcases kind_cases h with rfl | rfl | rfl | rfl | rfl | rfl | rfl | rfl | rfl | rfl | rfl | rfl | rfl | rfl | rfl | rfl <;> decide
  · have : fdsOf kind = [] := by unfold fdsOf; rw [if_neg h]
    have h2 : ∀ c, hasF kind c = false := fun c => by unfold hasF; rw [this]; simp
    rw [this]
    simp [h2]
def Msg.bare (m : Msg) : Msg :=
  ⟨m.kind, m.rid, if hasF m.kind .n then m.ver else 0, if hasF m.kind .r then m.err else 0, if hasF m.kind .i then m.id else 0, m.has && hasF m.kind .h, m.gone && hasF m.kind .g,
    if hasF m.kind .k then m.key else ⟨#[]⟩, if hasF m.kind .v then m.val else ⟨#[]⟩, if hasF m.kind .e then m.ents else [], if hasF m.kind .t then m.items else []⟩
/-! ### may it be -/
def keyOk (l : List UInt8) : Bool := !l.isEmpty && decide (l.length ≤ 24) && l.all fun c => decide (33 ≤ c.toNat) && decide (c.toNat ≤ 126)
def Item.right (x : Item) : Bool := keyOk x.key.data.toList && decide (x.val.size ≤ 32) && decide (1 ≤ x.ver) && decide (x.ver ≤ 1073741824)
def Msg.right (m : Msg) : Bool :=
  isKind m.kind && decide (0 ≤ m.rid) && decide (m.rid ≤ 1073741824) && decide (0 ≤ m.err) && decide (m.err ≤ 99) && decide (0 ≤ m.ver) && decide (m.ver ≤ 1073741824) &&
  (decide (m.ents.length ≤ 8) && decide (m.items.length ≤ 16) && (decide (m.kind ≠ 7) || decide (m.ents.length = 1)) && (m.ents.all Entry.right) && (m.items.all Item.right)) &&
  decide (m.val.size ≤ 32) && (!hasF m.kind .k || keyOk m.key.data.toList) && decide (m = m.bare)
/-! ### how it is written -/
def bitF (b : Bool) : List UInt8 := [if b then 1 else 0]
def Item.bytes (x : Item) : List UInt8 := ((putText x.key.data.toList ++ putText x.val.data.toList) ++ putNum (u64of x.ver) 4) ++ bitF x.gone
def entsB (l : List Entry) : List UInt8 := l.flatMap fun e => putText e.bytes
def itemsB (l : List Item) : List UInt8 := l.flatMap Item.bytes
def Msg.field (m : Msg) : Fd → List UInt8
  | .r => putNum (u64of m.err) 2
  | .h => bitF m.has
  | .g => bitF m.gone
  | .i => putNum m.id 8
  | .n => putNum (u64of m.ver) 4
  | .k => putText m.key.data.toList
  | .v => putText m.val.data.toList
  | .e => [UInt8.ofNat m.ents.length] ++ entsB m.ents
  | .t => [UInt8.ofNat m.items.length] ++ itemsB m.items
def Msg.bytes (m : Msg) : List UInt8 := ([UInt8.ofNat m.kind.toNat] ++ putNum (u64of m.rid) 4) ++ (fdsOf m.kind).flatMap m.field
/-! ### how it is read -/
/-- a message that is read -/
structure Tkr where
  rdr : Rdr
  msg : Msg
  bad : Bool
  big : Bool
def Tkr.truth (x : Tkr) : Bool × Tkr := (decide ((x.rdr.num 1).1 = 1), { x with rdr := (x.rdr.num 1).2, bad := x.bad || decide (1 < (x.rdr.num 1).1) })
def Tkr.count (x : Tkr) (most : Int) : Nat × Tkr :=
  if most < (x.rdr.num 1).1 then (0, { x with rdr := (x.rdr.num 1).2, big := true }) else ((x.rdr.num 1).1.toNat, { x with rdr := (x.rdr.num 1).2 })
def Tkr.ent (x : Tkr) : Tkr :=
  { x with rdr := (x.rdr.text 128).2, msg := { x.msg with ents := x.msg.ents ++ [(entryOf (x.rdr.text 128).1).1] }, bad := x.bad || decide ((entryOf (x.rdr.text 128).1).2 ≠ 0) }
def Tkr.item (x : Tkr) : Tkr :=
  let a := x.rdr.text 24
  let b := a.2.text 32
  let c := b.2.num 4
  let y := ({ x with rdr := c.2 } : Tkr).truth
  { y.2 with msg := { x.msg with items := x.msg.items ++ [⟨bs a.1, bs b.1, c.1, y.1⟩] } }
def iter {α : Type} (f : α → α) : Nat → α → α
  | 0, x => x
  | n + 1, x => f (iter f n x)
def Tkr.field (x : Tkr) : Fd → Tkr
  | .r => { x with rdr := (x.rdr.num 2).2, msg := { x.msg with err := (x.rdr.num 2).1 } }
  | .h => { x.truth.2 with msg := { x.msg with has := x.truth.1 } }
  | .g => { x.truth.2 with msg := { x.msg with gone := x.truth.1 } }
  | .i => { x with rdr := (x.rdr.num 8).2, msg := { x.msg with id := (x.rdr.num 8).1 } }
  | .n => { x with rdr := (x.rdr.num 4).2, msg := { x.msg with ver := (x.rdr.num 4).1 } }
  | .k => { x with rdr := (x.rdr.text 24).2, msg := { x.msg with key := bs (x.rdr.text 24).1 } }
  | .v => { x with rdr := (x.rdr.text 32).2, msg := { x.msg with val := bs (x.rdr.text 32).1 } }
  | .e => iter Tkr.ent (x.count 8).1 (x.count 8).2
  | .t => iter Tkr.item (x.count 16).1 (x.count 16).2
def takeM0 (l : List UInt8) (kind : Int) : Tkr := ⟨((Rdr.mk l 0).num 4).2, { Msg.zero with kind := kind, rid := ((Rdr.mk l 0).num 4).1 }, false, false⟩
def takeT (l : List UInt8) (kind : Int) : Tkr := (fdsOf kind).foldl Tkr.field (takeM0 l kind)
def takeM (l : List UInt8) : Msg × Int :=
  match l with
  | [] => (Msg.zero, 10)
  | c :: r =>
    if isKind c.toNat = false then (Msg.zero, 13) else
    if (takeT r c.toNat).rdr.met ≠ 0 then (Msg.zero, (takeT r c.toNat).rdr.met) else
    if (takeT r c.toNat).big then (Msg.zero, 3) else
    if (takeT r c.toNat).rdr.fin ≠ 0 then (Msg.zero, (takeT r c.toNat).rdr.fin) else
    if (takeT r c.toNat).bad || !(takeT r c.toNat).msg.right then (Msg.zero, 11) else ((takeT r c.toNat).msg, 0)
def answerK (kind : Int) : Int :=
  if kind = 1 ∨ kind = 5 ∨ kind = 16 then 2 else if kind = 3 ∨ kind = 6 ∨ kind = 8 ∨ kind = 10 ∨ kind = 12 ∨ kind = 14 then kind + 1 else 0
end Go.Proofs.Ytjehefhckiimkaa
end
section
set_option linter.unusedSimpArgs false
set_option linter.unusedVariables false

namespace Go.Proofs.Ytjehefhckiimkaa
open Go.RowKit

theorem q1_256 : (256 : Int) ^ (1 : Nat) = 256 := by decide +kernel
theorem q2_256 : (256 : Int) ^ (2 : Nat) = 65536 := by decide +kernel
theorem q4_256 : (256 : Int) ^ (4 : Nat) = 4294967296 := by decide +kernel
theorem q8_256 : (256 : Int) ^ (8 : Nat) = 18446744073709551616 := by decide +kernel
theorem putNum_one (n : Int) : putNum n 1 = [UInt8.ofNat (n.toNat % 256)] := by
  unfold putNum be byteAt
  rw [if_neg (by omega)]
  simp
theorem ofNat_mod (n : Nat) : UInt8.ofNat (n % 256) = UInt8.ofNat n := by
  apply UInt8.toNat_inj.1
  rw [UInt8.toNat_ofNat', UInt8.toNat_ofNat']
  omega
theorem putNum_one' (n : Nat) : putNum (n : Int) 1 = [UInt8.ofNat n] := by rw [putNum_one, Int.toNat_natCast, ofNat_mod]
theorem bitF_num (b : Bool) : bitF b = putNum (if b then 1 else 0) ((1 : Nat) : Int) := by cases b <;> (rw [show ((1 : Nat) : Int) = 1 from rfl, putNum_one]; rfl)
theorem entBytes_128 {e : Entry} (h : e.right = true) : e.bytes.length ≤ 128 := by
  obtain ⟨h1, h2, h3, h4, h5, h6, h7⟩ := right_parts h
  have hn := nameOk_len h1
  unfold Entry.bytes Entry.body
  have ht : e.tag.data.toList.length = 32 := h7
  have l4 : ∀ n : Int, (putNum n 4).length = 4 := fun n => by unfold putNum; rw [if_neg (by omega), be_length]; rfl
  have l2 : ∀ n : Int, (putNum n 2).length = 2 := fun n => by unfold putNum; rw [if_neg (by omega), be_length]; rfl
  have hp : (putText e.name.data.toList).length ≤ 18 := by
    unfold putText
    rw [List.length_append, List.length_take, l2]
    omega
  have h8 : (putNum e.id 8).length ≤ 8 := putNum_length _ _
  simp only [List.length_append, ht, l4, l2]
  omega
theorem u64_small {n : Int} (h0 : 0 ≤ n) (h : n < 18446744073709551616) : u64of n = n := Int.emod_eq_of_lt h0 h
theorem keyOk_len {l : List UInt8} (h : keyOk l = true) : l.length ≤ 24 := by
  unfold keyOk at h
  simp only [Bool.and_eq_true, decide_eq_true_eq] at h
  exact h.1.2
theorem Item.right_parts {x : Item} (h : x.right = true) : x.key.data.toList.length ≤ 24 ∧ x.val.data.toList.length ≤ 32 ∧ 1 ≤ x.ver ∧ x.ver ≤ 1073741824 := by
  unfold Item.right at h
  simp only [Bool.and_eq_true, decide_eq_true_eq] at h
  exact ⟨keyOk_len h.1.1.1, h.1.1.2, h.1.2, h.2⟩
/-! ### what was put is taken -/
theorem truth_back (x : Tkr) (b : Bool) (r : List UInt8) (h : x.rdr = ⟨bitF b ++ r, 0⟩) : x.truth = (b, { x with rdr := ⟨r, 0⟩ }) := by
  have hn : x.rdr.num 1 = (if b then 1 else 0, ⟨r, 0⟩) := by
    rw [h, bitF_num]
    exact num_back' _ 1 (by omega) (by omega) (by cases b <;> decide) (by rw [q1_256]; cases b <;> decide) r
  unfold Tkr.truth
  rw [hn]
  cases b <;> simp
theorem count_back (x : Tkr) (n most : Nat) (r : List UInt8) (hn : n ≤ most) (hm : most < 256) (h : x.rdr = ⟨[UInt8.ofNat n] ++ r, 0⟩) : x.count most = (n, { x with rdr := ⟨r, 0⟩ }) := by
  have hn' : x.rdr.num 1 = ((n : Int), ⟨r, 0⟩) := by
    rw [h, ← putNum_one']
    exact num_back' _ 1 (by omega) (by omega) (by omega) (by rw [q1_256]; omega) r
  unfold Tkr.count
  rw [hn']
  simp only
  rw [if_neg (by omega)]
  simp
theorem ent_back (x : Tkr) (e : Entry) (ok : e.Ok) (hr : e.right = true) (r : List UInt8) (h : x.rdr = ⟨putText e.bytes ++ r, 0⟩) : x.ent = { x with rdr := ⟨r, 0⟩, msg := { x.msg with ents := x.msg.ents ++ [e] } } := by
  have ht : x.rdr.text 128 = (e.bytes, ⟨r, 0⟩) := by rw [h]; exact text_back' e.bytes 128 (entBytes_128 hr) (by omega) r
  unfold Tkr.ent
  rw [ht]
  simp [read_bytes ok hr]
theorem ents_back (l : List Entry) : ∀ (x : Tkr) (r : List UInt8), (∀ e ∈ l, e.Ok ∧ e.right = true) → x.rdr = ⟨entsB l ++ r, 0⟩ → iter Tkr.ent l.length x = { x with rdr := ⟨r, 0⟩, msg := { x.msg with ents := x.msg.ents ++ l } } := by
  induction l using snoc_ind with
  | nil => intro x r _ h; obtain ⟨a, b, c, d⟩ := x; simp only [entsB, List.flatMap_nil, List.nil_append] at h; simp [iter, h]
  | snoc l e ih =>
    intro x r hl h
    have h1 : x.rdr = ⟨entsB l ++ (putText e.bytes ++ r), 0⟩ := by rw [h]; simp [entsB]
    rw [List.length_append, List.length_singleton]
    show (iter Tkr.ent l.length x).ent = _
    rw [ih x _ (fun y hy => hl y (by simp [hy])) h1]
    rw [ent_back _ e (hl e (by simp)).1 (hl e (by simp)).2 r rfl]
    simp
theorem item_back (x : Tkr) (i : Item) (hr : i.right = true) (r : List UInt8) (h : x.rdr = ⟨i.bytes ++ r, 0⟩) : x.item = { x with rdr := ⟨r, 0⟩, msg := { x.msg with items := x.msg.items ++ [i] } } := by
  obtain ⟨h1, h2, h3, h4⟩ := Item.right_parts hr
  have hb : i.bytes ++ r = putText i.key.data.toList ++ (putText i.val.data.toList ++ (putNum i.ver ((4 : Nat) : Int) ++ (bitF i.gone ++ r))) := by
    unfold Item.bytes
    rw [u64_small (by omega) (by omega)]
    simp only [List.append_assoc]; rfl
  have ea : x.rdr.text 24 = (i.key.data.toList, ⟨putText i.val.data.toList ++ (putNum i.ver ((4 : Nat) : Int) ++ (bitF i.gone ++ r)), 0⟩) := by
    rw [h, hb]; exact text_back' _ 24 h1 (by omega) _
  have eb : (Rdr.mk (putText i.val.data.toList ++ (putNum i.ver ((4 : Nat) : Int) ++ (bitF i.gone ++ r))) 0).text 32 = (i.val.data.toList, ⟨putNum i.ver ((4 : Nat) : Int) ++ (bitF i.gone ++ r), 0⟩) := text_back' _ 32 h2 (by omega) _
  have ec : (Rdr.mk (putNum i.ver ((4 : Nat) : Int) ++ (bitF i.gone ++ r)) 0).num 4 = (i.ver, ⟨bitF i.gone ++ r, 0⟩) := num_back' _ 4 (by omega) (by omega) (by omega) (by rw [q4_256]; omega) _
  have ed := truth_back { x with rdr := ⟨bitF i.gone ++ r, 0⟩ } i.gone r rfl
  unfold Tkr.item
  simp only [ea, eb, ec, ed, bs_toList]
theorem items_back (l : List Item) : ∀ (x : Tkr) (r : List UInt8), (∀ e ∈ l, e.right = true) → x.rdr = ⟨itemsB l ++ r, 0⟩ → iter Tkr.item l.length x = { x with rdr := ⟨r, 0⟩, msg := { x.msg with items := x.msg.items ++ l } } := by
  induction l using snoc_ind with
  | nil => intro x r _ h; obtain ⟨a, b, c, d⟩ := x; simp only [itemsB, List.flatMap_nil, List.nil_append] at h; simp [iter, h]
  | snoc l e ih =>
    intro x r hl h
    have h1 : x.rdr = ⟨itemsB l ++ (e.bytes ++ r), 0⟩ := by rw [h]; simp [itemsB]
    rw [List.length_append, List.length_singleton]
    show (iter Tkr.item l.length x).item = _
    rw [ih x _ (fun y hy => hl y (by simp [hy])) h1]
    rw [item_back _ e (hl e (by simp)) r rfl]
    simp
/-- a message with one field of another -/
def Msg.put (m : Msg) (x : Msg) : Fd → Msg
  | .r => { x with err := m.err }
  | .h => { x with has := m.has }
  | .g => { x with gone := m.gone }
  | .i => { x with id := m.id }
  | .n => { x with ver := m.ver }
  | .k => { x with key := m.key }
  | .v => { x with val := m.val }
  | .e => { x with ents := x.ents ++ m.ents }
  | .t => { x with items := x.items ++ m.items }
/-- what is written of a message -/
structure Msg.Fine (m : Msg) : Prop where
  rid0 : 0 ≤ m.rid
  rid1 : m.rid ≤ 1073741824
  err0 : 0 ≤ m.err
  err1 : m.err ≤ 99
  ver0 : 0 ≤ m.ver
  ver1 : m.ver ≤ 1073741824
  id : U64 m.id
  key : m.key.data.toList.length ≤ 24
  val : m.val.data.toList.length ≤ 32
  ents : m.ents.length ≤ 8
  items : m.items.length ≤ 16
  ent : ∀ e ∈ m.ents, e.Ok ∧ e.right = true
  item : ∀ e ∈ m.items, e.right = true
theorem field_back {m : Msg} (hm : m.Fine) (x : Tkr) (c : Fd) (r : List UInt8) (h : x.rdr = ⟨m.field c ++ r, 0⟩) : x.field c = { x with rdr := ⟨r, 0⟩, msg := m.put x.msg c } := by
  have hi := hm.id
  have h1 := hm.err0
  have h2 := hm.err1
  have h3 := hm.ver0
  have h4 := hm.ver1
  cases c with
  | r =>
    have e : x.rdr.num 2 = (m.err, ⟨r, 0⟩) := by
      rw [h]; show (Rdr.mk (putNum (u64of m.err) 2 ++ r) 0).num 2 = _
      rw [u64_small h1 (by omega)]
      exact num_back' _ 2 (by omega) (by omega) h1 (by rw [q2_256]; omega) _
    unfold Tkr.field; simp only [e]; rfl
  | h =>
    have e := truth_back x m.has r h
    unfold Tkr.field; simp only [e]; rfl
  | g =>
    have e := truth_back x m.gone r h
    unfold Tkr.field; simp only [e]; rfl
  | i =>
    have e : x.rdr.num 8 = (m.id, ⟨r, 0⟩) := by
      rw [h]; exact num_back' _ 8 (by omega) (by omega) hi.1 (by rw [q8_256]; have := hi.2; omega) _
    unfold Tkr.field; simp only [e]; rfl
  | n =>
    have e : x.rdr.num 4 = (m.ver, ⟨r, 0⟩) := by
      rw [h]; show (Rdr.mk (putNum (u64of m.ver) 4 ++ r) 0).num 4 = _
      rw [u64_small h3 (by omega)]
      exact num_back' _ 4 (by omega) (by omega) h3 (by rw [q4_256]; omega) _
    unfold Tkr.field; simp only [e]; rfl
  | k =>
    have e : x.rdr.text 24 = (m.key.data.toList, ⟨r, 0⟩) := by rw [h]; exact text_back' _ 24 hm.key (by omega) _
    unfold Tkr.field; simp only [e, bs_toList]; rfl
  | v =>
    have e : x.rdr.text 32 = (m.val.data.toList, ⟨r, 0⟩) := by rw [h]; exact text_back' _ 32 hm.val (by omega) _
    unfold Tkr.field; simp only [e, bs_toList]; rfl
  | e =>
    have h' : x.rdr = ⟨[UInt8.ofNat m.ents.length] ++ (entsB m.ents ++ r), 0⟩ := by rw [h]; simp [Msg.field]
    have e := count_back x m.ents.length 8 _ hm.ents (by omega) h'
    have e8 : ((8 : Nat) : Int) = 8 := rfl
    rw [e8] at e
    unfold Tkr.field
    simp only [e]
    rw [ents_back m.ents _ r hm.ent rfl]; rfl
  | t =>
    have h' : x.rdr = ⟨[UInt8.ofNat m.items.length] ++ (itemsB m.items ++ r), 0⟩ := by rw [h]; simp [Msg.field]
    have e := count_back x m.items.length 16 _ hm.items (by omega) h'
    have e8 : ((16 : Nat) : Int) = 16 := rfl
    rw [e8] at e
    unfold Tkr.field
    simp only [e]
    rw [items_back m.items _ r hm.item rfl]; rfl
theorem fold_back {m : Msg} (hm : m.Fine) (l : List Fd) : ∀ (x : Tkr) (r : List UInt8), x.rdr = ⟨l.flatMap m.field ++ r, 0⟩ → l.foldl Tkr.field x = { x with rdr := ⟨r, 0⟩, msg := l.foldl m.put x.msg } := by
  induction l with
  | nil => intro x r h; obtain ⟨a, b, c, d⟩ := x; simp only [List.flatMap_nil, List.nil_append] at h; simp [h]
  | cons c l ih =>
    intro x r h
    have h1 : x.rdr = ⟨m.field c ++ (l.flatMap m.field ++ r), 0⟩ := by rw [h]; simp
    rw [List.foldl_cons, field_back hm x c _ h1, ih _ r rfl]
    rfl
theorem puts_bare (m : Msg) (h : isKind m.kind = true) : (fdsOf m.kind).foldl m.put { Msg.zero with kind := m.kind, rid := m.rid } = m.bare := by
  obtain ⟨kind, rid, ver, err, id, has, gone, key, val, ents, items⟩ := m
  simp only at h ⊢
  rcases kind_cases h with rfl | rfl | rfl | rfl | rfl | rfl | rfl | rfl | rfl | rfl | rfl | rfl | rfl | rfl | rfl | rfl <;> simp [fdsOf, isKind, kindL, hasF, Msg.bare, Msg.put]
theorem Msg.right_parts {m : Msg} (h : m.right = true) : isKind m.kind = true ∧ 0 ≤ m.rid ∧ m.rid ≤ 1073741824 ∧ 0 ≤ m.err ∧ m.err ≤ 99 ∧ 0 ≤ m.ver ∧ m.ver ≤ 1073741824 ∧ m.ents.length ≤ 8 ∧ m.items.length ≤ 16 ∧ (∀ e ∈ m.ents, e.right = true) ∧ (∀ e ∈ m.items, e.right = true) ∧ m.val.size ≤ 32 ∧ m.key.data.toList.length ≤ 24 ∧ m = m.bare := by
  unfold Msg.right at h
  simp only [Bool.and_eq_true, decide_eq_true_eq, List.all_eq_true] at h
  obtain ⟨⟨⟨⟨⟨⟨⟨⟨⟨⟨h1, h2⟩, h3⟩, h4⟩, h5⟩, h6⟩, h7⟩, ⟨⟨⟨⟨h8, h9⟩, _⟩, h10⟩, h11⟩⟩, h12⟩, h13⟩, h14⟩ := h
  refine ⟨h1, h2, h3, h4, h5, h6, h7, h8, h9, h10, h11, h12, ?_, h14⟩
  by_cases hk : hasF m.kind .k = true
  · rw [hk] at h13
    exact keyOk_len (by simpa using h13)
  · have e : m.key = ⟨#[]⟩ := by rw [h14]; unfold Msg.bare; simp only; rw [if_neg hk]
    rw [e]; decide
theorem right_fine {m : Msg} (ok : m.Ok) (h : m.right = true) : m.Fine := by
  obtain ⟨h1, h2, h3, h4, h5, h6, h7, h8, h9, h10, h11, h12, h13, h14⟩ := Msg.right_parts h
  exact ⟨h2, h3, h4, h5, h6, h7, ok.id, h13, h12, h8, h9, fun e he => ⟨ok.ents e he, h10 e he⟩, h11⟩
theorem kind_byte {k : Int} (h : isKind k = true) : (((UInt8.ofNat k.toNat).toNat : Nat) : Int) = k := by
  rcases kind_cases h with rfl | rfl | rfl | rfl | rfl | rfl | rfl | rfl | rfl | rfl | rfl | rfl | rfl | rfl | rfl | rfl <;> decide
theorem put_back {m : Msg} (ok : m.Ok) (h : m.right = true) : takeM m.bytes = (m, 0) := by
  have hf := right_fine ok h
  obtain ⟨hk, _, _, _, _, _, _, _, _, _, _, _, _, hb⟩ := Msg.right_parts h
  have e0 : m.bytes = UInt8.ofNat m.kind.toNat :: (putNum m.rid ((4 : Nat) : Int) ++ (fdsOf m.kind).flatMap m.field) := by
    unfold Msg.bytes
    rw [u64_small hf.rid0 (by have := hf.rid1; omega)]
    simp
  have e1 : (Rdr.mk (putNum m.rid ((4 : Nat) : Int) ++ (fdsOf m.kind).flatMap m.field) 0).num 4 = (m.rid, ⟨(fdsOf m.kind).flatMap m.field, 0⟩) :=
    num_back' _ 4 (by omega) (by omega) hf.rid0 (by rw [q4_256]; have := hf.rid1; omega) _
  have e2 : takeT (putNum m.rid ((4 : Nat) : Int) ++ (fdsOf m.kind).flatMap m.field) m.kind = ⟨⟨[], 0⟩, m, false, false⟩ := by
    unfold takeT takeM0
    rw [e1]
    rw [fold_back hf (fdsOf m.kind) _ [] (by simp)]
    simp only
    rw [puts_bare m hk, ← hb]
  unfold takeM
  rw [e0]
  simp only [kind_byte hk, e2, hk, h]
  simp [Rdr.fin]
/-! ### what is taken is put as it was -/
def Tkr.Fine (x : Tkr) : Prop := x.rdr.met = 0 ∧ x.bad = false ∧ x.big = false
theorem truth_met {x : Tkr} (h1 : x.truth.2.rdr.met = 0) (h2 : x.truth.2.bad = false) : x.rdr.met = 0 ∧ x.bad = false ∧ x.rdr.rest = bitF x.truth.1 ++ x.truth.2.rdr.rest := by
  unfold Tkr.truth at h1 h2 ⊢
  simp only [Bool.or_eq_false_iff, decide_eq_false_iff_not] at h1 h2 ⊢
  obtain ⟨g1, g2⟩ := num_met (σ := x.rdr) (k := 1) (by omega) (by omega) h1
  have hs := num_small x.rdr 1 (by omega)
  rw [q1_256] at hs
  refine ⟨g1, h2.1, ?_⟩
  have e : (x.rdr.num 1).1 = if (x.rdr.num 1).1 = 1 then 1 else 0 := by
    have := h2.2
    have h0 : 0 ≤ (x.rdr.num 1).1 := hs.1
    split <;> omega
  have e2 : bitF (decide ((x.rdr.num 1).1 = 1)) = putNum (x.rdr.num 1).1 1 := by
    rw [bitF_num]
    by_cases h3 : (x.rdr.num 1).1 = 1
    · rw [decide_eq_true h3, h3]; rfl
    · rw [decide_eq_false h3]
      rw [if_neg h3] at e
      rw [e]; rfl
  rw [e2]; exact g2
theorem count_met {x : Tkr} (most : Nat) (h1 : (x.count most).2.rdr.met = 0) (h2 : (x.count most).2.big = false) : x.rdr.met = 0 ∧ x.big = false ∧ (x.count most).2.bad = x.bad ∧ (x.count most).2.msg = x.msg ∧ x.rdr.rest = [UInt8.ofNat (x.count most).1] ++ (x.count most).2.rdr.rest := by
  unfold Tkr.count at h1 h2 ⊢
  by_cases hb : (most : Int) < (x.rdr.num 1).1
  · rw [if_pos hb] at h2; simp at h2
  rw [if_neg hb] at h1 h2 ⊢
  simp only at h1 h2 ⊢
  obtain ⟨g1, g2⟩ := num_met (σ := x.rdr) (k := 1) (by omega) (by omega) h1
  have hs := num_small x.rdr 1 (by omega)
  have h0 : 0 ≤ (x.rdr.num 1).1 := hs.1
  refine ⟨g1, h2, by simp, by simp, ?_⟩
  rw [← putNum_one', Int.toNat_of_nonneg h0]
  exact g2
theorem ents_met (n : Nat) : ∀ (x : Tkr), (iter Tkr.ent n x).rdr.met = 0 → (iter Tkr.ent n x).bad = false →
    x.rdr.met = 0 ∧ x.bad = false ∧ (iter Tkr.ent n x).big = x.big ∧ ∃ l, l.length = n ∧ (iter Tkr.ent n x).msg = { x.msg with ents := x.msg.ents ++ l } ∧ x.rdr.rest = entsB l ++ (iter Tkr.ent n x).rdr.rest := by
  induction n with
  | zero => intro x h1 h2; exact ⟨h1, h2, rfl, [], rfl, by simp [iter], by simp [iter, entsB]⟩
  | succ n ih =>
    intro x h1 h2
    have h1' : ((iter Tkr.ent n x).rdr.text 128).2.met = 0 := h1
    have h2' : ((iter Tkr.ent n x).bad || decide ((entryOf ((iter Tkr.ent n x).rdr.text 128).1).2 ≠ 0)) = false := h2
    rw [Bool.or_eq_false_iff, decide_eq_false_iff_not, Decidable.not_not] at h2'
    obtain ⟨g1, g2⟩ := text_met (σ := (iter Tkr.ent n x).rdr) (m := 128) (by omega) h1'
    obtain ⟨k1, k2, k3, l, k4, k5, k6⟩ := ih x g1 h2'.1
    obtain ⟨r1, r2⟩ := read_right (b := ((iter Tkr.ent n x).rdr.text 128).1) (x := (entryOf ((iter Tkr.ent n x).rdr.text 128).1).1) (Prod.ext rfl h2'.2)
    refine ⟨k1, k2, k3, l ++ [(entryOf ((iter Tkr.ent n x).rdr.text 128).1).1], by simp [k4], ?_, ?_⟩
    · show ({ (iter Tkr.ent n x).msg with ents := (iter Tkr.ent n x).msg.ents ++ [(entryOf ((iter Tkr.ent n x).rdr.text 128).1).1] } : Msg) = _
      rw [k5]; simp
    · have e : entsB (l ++ [(entryOf ((iter Tkr.ent n x).rdr.text 128).1).1]) = entsB l ++ putText ((iter Tkr.ent n x).rdr.text 128).1 := by
        unfold entsB; rw [List.flatMap_append]; simp [r2]
      rw [e, k6, List.append_assoc]
      congr 1
theorem item_met {x : Tkr} (h1 : x.item.rdr.met = 0) (h2 : x.item.bad = false) : x.rdr.met = 0 ∧ x.bad = false ∧ x.item.big = x.big ∧ ∃ i, x.item.msg = { x.msg with items := x.msg.items ++ [i] } ∧ x.rdr.rest = i.bytes ++ x.item.rdr.rest := by
  obtain ⟨a, ha⟩ : ∃ a, x.rdr.text 24 = a := ⟨_, rfl⟩
  obtain ⟨b, hb⟩ : ∃ b, a.2.text 32 = b := ⟨_, rfl⟩
  obtain ⟨c, hc⟩ : ∃ c, b.2.num 4 = c := ⟨_, rfl⟩
  have he : x.item = { (({ x with rdr := c.2 } : Tkr).truth).2 with msg := { x.msg with items := x.msg.items ++ [⟨bs a.1, bs b.1, c.1, (({ x with rdr := c.2 } : Tkr).truth).1⟩] } } := by
    unfold Tkr.item; simp only [ha, hb, hc]
  rw [he] at h1 h2 ⊢
  obtain ⟨d1, d2, d3⟩ := truth_met (x := { x with rdr := c.2 }) h1 h2
  simp only at d1 d2 d3
  have hs := num_small b.2 4 (by omega)
  have hs' : 0 ≤ c.1 ∧ c.1 < 256 ^ 4 := by rw [← hc]; exact hs
  rw [← hc] at d1
  obtain ⟨c1, c2⟩ := num_met (σ := b.2) (k := 4) (by omega) (by omega) d1
  rw [← hb] at c1
  obtain ⟨b1, b2⟩ := text_met (σ := a.2) (m := 32) (by omega) c1
  rw [← ha] at b1
  obtain ⟨a1, a2⟩ := text_met (σ := x.rdr) (m := 24) (by omega) b1
  refine ⟨a1, d2, rfl, _, rfl, ?_⟩
  have a2' : x.rdr.rest = putText a.1 ++ a.2.rest := by rw [← ha]; exact a2
  have b2' : a.2.rest = putText b.1 ++ b.2.rest := by rw [← hb]; exact b2
  have c2' : b.2.rest = putNum c.1 4 ++ c.2.rest := by rw [← hc]; exact c2
  rw [a2', b2', c2', d3]
  unfold Item.bytes
  simp only [toList_bs]
  rw [u64_small hs'.1 (by have := hs'.2; rw [q4_256] at this; omega)]
  simp only [List.append_assoc]
theorem items_met (n : Nat) : ∀ (x : Tkr), (iter Tkr.item n x).rdr.met = 0 → (iter Tkr.item n x).bad = false →
    x.rdr.met = 0 ∧ x.bad = false ∧ (iter Tkr.item n x).big = x.big ∧ ∃ l, l.length = n ∧ (iter Tkr.item n x).msg = { x.msg with items := x.msg.items ++ l } ∧ x.rdr.rest = itemsB l ++ (iter Tkr.item n x).rdr.rest := by
  induction n with
  | zero => intro x h1 h2; exact ⟨h1, h2, rfl, [], rfl, by simp [iter], by simp [iter, itemsB]⟩
  | succ n ih =>
    intro x h1 h2
    obtain ⟨g1, g2, g3, i, g4, g5⟩ := item_met (x := iter Tkr.item n x) h1 h2
    obtain ⟨k1, k2, k3, l, k4, k5, k6⟩ := ih x g1 g2
    refine ⟨k1, k2, g3.trans k3, l ++ [i], by simp [k4], ?_, ?_⟩
    · show (iter Tkr.item n x).item.msg = _
      rw [g4, k5]; simp
    · show x.rdr.rest = _ ++ (iter Tkr.item n x).item.rdr.rest
      rw [k6, g5]; simp [itemsB]
theorem field_met (x : Tkr) (c : Fd) (he : c = .e → x.msg.ents = []) (ht : c = .t → x.msg.items = []) (h : (x.field c).Fine) : x.Fine ∧ x.rdr.rest = (x.field c).msg.field c ++ (x.field c).rdr.rest := by
  obtain ⟨h1, h2, h3⟩ := h
  cases c with
  | r =>
    obtain ⟨g1, g2⟩ := num_met (σ := x.rdr) (k := 2) (by omega) (by omega) h1
    have hs := num_small x.rdr 2 (by omega)
    have hs' : 0 ≤ (x.rdr.num 2).1 ∧ (x.rdr.num 2).1 < 256 ^ 2 := hs
    rw [q2_256] at hs'
    refine ⟨⟨g1, h2, h3⟩, ?_⟩
    show _ = putNum (u64of (x.rdr.num 2).1) 2 ++ _
    rw [u64_small hs'.1 (by omega)]; exact g2
  | h =>
    obtain ⟨g1, g2, g3⟩ := truth_met (x := x) h1 h2
    exact ⟨⟨g1, g2, h3⟩, g3⟩
  | g =>
    obtain ⟨g1, g2, g3⟩ := truth_met (x := x) h1 h2
    exact ⟨⟨g1, g2, h3⟩, g3⟩
  | i =>
    obtain ⟨g1, g2⟩ := num_met (σ := x.rdr) (k := 8) (by omega) (by omega) h1
    exact ⟨⟨g1, h2, h3⟩, g2⟩
  | n =>
    obtain ⟨g1, g2⟩ := num_met (σ := x.rdr) (k := 4) (by omega) (by omega) h1
    have hs := num_small x.rdr 4 (by omega)
    have hs' : 0 ≤ (x.rdr.num 4).1 ∧ (x.rdr.num 4).1 < 256 ^ 4 := hs
    rw [q4_256] at hs'
    refine ⟨⟨g1, h2, h3⟩, ?_⟩
    show _ = putNum (u64of (x.rdr.num 4).1) 4 ++ _
    rw [u64_small hs'.1 (by omega)]; exact g2
  | k =>
    obtain ⟨g1, g2⟩ := text_met (σ := x.rdr) (m := 24) (by omega) h1
    refine ⟨⟨g1, h2, h3⟩, ?_⟩
    show _ = putText (bs (x.rdr.text 24).1).data.toList ++ _
    rw [toList_bs]; exact g2
  | v =>
    obtain ⟨g1, g2⟩ := text_met (σ := x.rdr) (m := 32) (by omega) h1
    refine ⟨⟨g1, h2, h3⟩, ?_⟩
    show _ = putText (bs (x.rdr.text 32).1).data.toList ++ _
    rw [toList_bs]; exact g2
  | e =>
    obtain ⟨g1, g2, g3, l, g4, g5, g6⟩ := ents_met (x.count 8).1 (x.count 8).2 h1 h2
    have h3' : (x.count (8 : Nat)).2.big = false := g3.symm.trans h3
    obtain ⟨k1, k2, k3, k4, k5⟩ := count_met 8 (x := x) g1 h3'
    refine ⟨⟨k1, by rw [← k3]; exact g2, k2⟩, ?_⟩
    have em : (x.field .e).msg.ents = l := by
      show (iter Tkr.ent (x.count 8).1 (x.count 8).2).msg.ents = l
      rw [g5]
      show (x.count (8 : Nat)).2.msg.ents ++ l = l
      rw [k4, he rfl]; rfl
    show _ = ([UInt8.ofNat (x.field .e).msg.ents.length] ++ entsB (x.field .e).msg.ents) ++ _
    rw [em, g4, List.append_assoc]
    refine k5.trans ?_
    congr 1
  | t =>
    obtain ⟨g1, g2, g3, l, g4, g5, g6⟩ := items_met (x.count 16).1 (x.count 16).2 h1 h2
    have h3' : (x.count (16 : Nat)).2.big = false := g3.symm.trans h3
    obtain ⟨k1, k2, k3, k4, k5⟩ := count_met 16 (x := x) g1 h3'
    refine ⟨⟨k1, by rw [← k3]; exact g2, k2⟩, ?_⟩
    have em : (x.field .t).msg.items = l := by
      show (iter Tkr.item (x.count 16).1 (x.count 16).2).msg.items = l
      rw [g5]
      show (x.count (16 : Nat)).2.msg.items ++ l = l
      rw [k4, ht rfl]; rfl
    show _ = ([UInt8.ofNat (x.field .t).msg.items.length] ++ itemsB (x.field .t).msg.items) ++ _
    rw [em, g4, List.append_assoc]
    refine k5.trans ?_
    congr 1
/-! ### what a field's reading leaves -/
theorem count_msg (x : Tkr) (n : Int) : (x.count n).2.msg = x.msg := by unfold Tkr.count; split <;> rfl
theorem ents_msg (n : Nat) (x : Tkr) : ∃ l, (iter Tkr.ent n x).msg = { x.msg with ents := l } := by
  induction n with
  | zero => exact ⟨x.msg.ents, rfl⟩
  | succ n ih =>
    obtain ⟨l, hl⟩ := ih
    refine ⟨l ++ [(entryOf ((iter Tkr.ent n x).rdr.text 128).1).1], ?_⟩
    show ({ (iter Tkr.ent n x).msg with ents := (iter Tkr.ent n x).msg.ents ++ [_] } : Msg) = _
    rw [hl]
theorem item_msg (x : Tkr) : ∃ l, x.item.msg = { x.msg with items := l } := ⟨_, rfl⟩
theorem items_msg (n : Nat) (x : Tkr) : ∃ l, (iter Tkr.item n x).msg = { x.msg with items := l } := by
  induction n with
  | zero => exact ⟨x.msg.items, rfl⟩
  | succ n ih =>
    obtain ⟨l, hl⟩ := ih
    obtain ⟨k, hk⟩ := item_msg (iter Tkr.item n x)
    refine ⟨k, ?_⟩
    show (iter Tkr.item n x).item.msg = _
    rw [hk, hl]
theorem field_msg (x : Tkr) (d : Fd) : (x.field d).msg.kind = x.msg.kind ∧ (x.field d).msg.rid = x.msg.rid ∧ (d ≠ .e → (x.field d).msg.ents = x.msg.ents) ∧ (d ≠ .t → (x.field d).msg.items = x.msg.items) ∧ ∀ c, c ≠ d → (x.field d).msg.field c = x.msg.field c := by
  cases d with
  | e =>
    obtain ⟨l, hl⟩ := ents_msg (x.count 8).1 (x.count 8).2
    have hl' : (x.field .e).msg = { x.msg with ents := l } := by rw [← count_msg x 8]; exact hl
    rw [hl']
    exact ⟨rfl, rfl, fun h => absurd rfl h, fun _ => rfl, fun c hc => by cases c <;> first | exact absurd rfl hc | rfl⟩
  | t =>
    obtain ⟨l, hl⟩ := items_msg (x.count 16).1 (x.count 16).2
    have hl' : (x.field .t).msg = { x.msg with items := l } := by rw [← count_msg x 16]; exact hl
    rw [hl']
    exact ⟨rfl, rfl, fun _ => rfl, fun h => absurd rfl h, fun c hc => by cases c <;> first | exact absurd rfl hc | rfl⟩
  | _ => exact ⟨rfl, rfl, fun _ => rfl, fun _ => rfl, fun c hc => by cases c <;> first | exact absurd rfl hc | rfl⟩
theorem fold_met (l : List Fd) : ∀ (x : Tkr), l.Nodup → (.e ∈ l → x.msg.ents = []) → (.t ∈ l → x.msg.items = []) → (l.foldl Tkr.field x).Fine →
    x.Fine ∧ x.rdr.rest = l.flatMap (l.foldl Tkr.field x).msg.field ++ (l.foldl Tkr.field x).rdr.rest ∧ (l.foldl Tkr.field x).msg.kind = x.msg.kind ∧ (l.foldl Tkr.field x).msg.rid = x.msg.rid ∧ ∀ c, c ∉ l → (l.foldl Tkr.field x).msg.field c = x.msg.field c := by
  induction l with
  | nil => intro x _ _ _ h; exact ⟨h, by simp, rfl, rfl, fun _ _ => rfl⟩
  | cons d l ih =>
    intro x hnd he ht h
    obtain ⟨hd, hnd'⟩ := List.nodup_cons.1 hnd
    obtain ⟨m1, m2, m3, m4, m5⟩ := field_msg x d
    rw [List.foldl_cons] at h ⊢
    obtain ⟨g1, g2, g3, g4, g5⟩ := ih (x.field d) hnd' (fun hm => by rw [m3 (fun e => hd (e ▸ hm))]; exact he (by simp [hm])) (fun hm => by rw [m4 (fun e => hd (e ▸ hm))]; exact ht (by simp [hm])) h
    obtain ⟨k1, k2⟩ := field_met x d (fun e => he (by simp [e])) (fun e => ht (by simp [e])) g1
    refine ⟨k1, ?_, g3.trans m1, g4.trans m2, fun c hc => ?_⟩
    · rw [List.flatMap_cons, g5 d hd, List.append_assoc, ← g2]; exact k2
    · rw [g5 c (fun hm => hc (by simp [hm])), m5 c (fun e => hc (by simp [e]))]
theorem fds_nodup (k : Int) : (fdsOf k).Nodup := by
  rw [fds_filter]
  exact List.Nodup.sublist List.filter_sublist (by decide)
theorem fin_zero {σ : Rdr} (h : σ.fin = 0) : σ.met = 0 ∧ σ.rest = [] := by
  unfold Rdr.fin at h
  by_cases h3 : σ.met = 0 ∧ σ.rest ≠ []
  · rw [if_pos h3] at h; simp at h
  · rw [if_neg h3] at h
    exact ⟨h, Decidable.not_not.1 fun e => h3 ⟨h, e⟩⟩
theorem take_right {b : List UInt8} {n : Msg} (h : takeM b = (n, 0)) : n.right = true ∧ n.bytes = b := by
  cases b with
  | nil => simp [takeM] at h
  | cons c r =>
    unfold takeM at h
    simp only at h
    by_cases h1 : isKind (c.toNat : Int) = false
    · rw [if_pos h1] at h; exact absurd (Prod.mk.inj h).2 (by decide)
    rw [if_neg h1] at h
    by_cases h2 : (takeT r c.toNat).rdr.met ≠ 0
    · rw [if_pos h2] at h; exact absurd (Prod.mk.inj h).2 h2
    rw [if_neg h2] at h
    by_cases h3 : (takeT r c.toNat).big = true
    · rw [if_pos h3] at h; exact absurd (Prod.mk.inj h).2 (by decide)
    rw [if_neg h3] at h
    by_cases h4 : (takeT r c.toNat).rdr.fin ≠ 0
    · rw [if_pos h4] at h; exact absurd (Prod.mk.inj h).2 h4
    rw [if_neg h4] at h
    by_cases h5 : ((takeT r c.toNat).bad || !(takeT r c.toNat).msg.right) = true
    · rw [if_pos h5] at h; exact absurd (Prod.mk.inj h).2 (by decide)
    rw [if_neg h5] at h
    obtain ⟨rfl, _⟩ := Prod.mk.inj h
    have h5' : (takeT r c.toNat).bad = false ∧ (takeT r c.toNat).msg.right = true := by simpa using h5
    obtain ⟨f1, f2⟩ := fin_zero (Decidable.not_not.1 h4)
    refine ⟨h5'.2, ?_⟩
    obtain ⟨g1, g2, g3, g4, _⟩ := fold_met (fdsOf (c.toNat : Int)) (takeM0 r c.toNat) (fds_nodup _) (fun _ => rfl) (fun _ => rfl) ⟨f1, h5'.1, (by simpa using h3 : (takeT r c.toNat).big = false)⟩
    have g1' : ((Rdr.mk r 0).num (4 : Nat)).2.met = 0 := g1.1
    obtain ⟨_, k2⟩ := num_met (σ := Rdr.mk r 0) (k := 4) (by omega) (by omega) g1'
    have hs := num_small (Rdr.mk r 0) 4 (by omega)
    rw [q4_256] at hs
    have e1 : (takeT r c.toNat).msg.kind = c.toNat := g3
    have e2 : (takeT r c.toNat).msg.rid = ((Rdr.mk r 0).num (4 : Nat)).1 := g4
    have e3 : ((Rdr.mk r 0).num (4 : Nat)).2.rest = (fdsOf (c.toNat : Int)).flatMap (takeT r c.toNat).msg.field := by
      have := g2
      rw [show ((fdsOf (c.toNat : Int)).foldl Tkr.field (takeM0 r c.toNat)) = takeT r c.toNat from rfl, f2, List.append_nil] at this
      exact this
    unfold Msg.bytes
    rw [e1, e2, u64_small hs.1 (by have := hs.2; omega), ← e3]
    have e4 : UInt8.ofNat ((c.toNat : Int)).toNat = c := by simp
    rw [e4]
    have k2' : r = putNum ((Rdr.mk r 0).num (4 : Nat)).1 (4 : Nat) ++ ((Rdr.mk r 0).num (4 : Nat)).2.rest := k2
    show c :: (putNum ((Rdr.mk r 0).num (4 : Nat)).1 (4 : Nat) ++ ((Rdr.mk r 0).num (4 : Nat)).2.rest) = c :: r
    rw [← k2']
theorem take_zero {b : List UInt8} {n : Msg} {x : Int} (h : takeM b = (n, x)) (hx : x ≠ 0) : n = Msg.zero := by
  have : ∀ p : Msg × Int, p = (n, x) → (p.2 ≠ 0 → p.1 = Msg.zero) → n = Msg.zero := fun p hp h' => by subst hp; exact h' hx
  refine this _ h ?_
  unfold takeM
  cases b with
  | nil => exact fun _ => rfl
  | cons c r =>
    simp only
    split
    · exact fun _ => rfl
    split
    · exact fun _ => rfl
    split
    · exact fun _ => rfl
    split
    · exact fun _ => rfl
    split
    · exact fun _ => rfl
    · exact fun h => absurd rfl h
end Go.Proofs.Ytjehefhckiimkaa
end
