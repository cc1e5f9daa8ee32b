/-
  How tokens are told, in plain terms.
-/
import Derived.Test.YtbdheihjnkfpiaaGreatDoorSpec
import Derived.Lib.ItoaNum
namespace Go.Proofs.YtbdheihjnkfpiaaGreatDoor

/-- A token as it comes in: kind and place may be any numbers. -/
structure PT where
  kind : Int
  place : Int
  text : Bytes
  num : Nat
  deriving DecidableEq, Inhabited

def Tok.pt (t : Tok) : PT := ⟨t.kind, t.place, t.text, t.num⟩

/-- A byte in quotes. -/
def quoteByte (c : UInt8) : Bytes :=
  if c = 10 then [92, 110] else if c = 13 then [92, 114] else if c = 9 then [92, 116] else if c = 34 then [92, 34] else if c = 92 then [92, 92]
  else if c.toNat < 32 ∨ 126 < c.toNat then [92, UInt8.ofNat (48 + c.toNat / 64), UInt8.ofNat (48 + c.toNat / 8 % 8), UInt8.ofNat (48 + c.toNat % 8)] else [c]
def quote (s : Bytes) : Bytes := 34 :: (s.flatMap quoteByte ++ [34])

/-- May a token be? -/
def mayBe (t : PT) : Bool :=
  if t.kind = 1 then t.num == 0 && (t.text.head?.map cls == some 1 && t.text.all isWord)
  else if t.kind = 2 then t.text == []
  else if t.kind = 3 then t.num == 0
  else if t.kind = 4 then t.num == 0 && (t.text.length == 1 && t.text.head?.map cls == some 4)
  else false
/-- A token's text. -/
def told (t : PT) : Bytes := if t.kind = 2 then Lib.decDigits t.num else if t.kind = 3 then quote t.text else t.text
/-- Tokens' texts, a blank ahead of each but the first. -/
def tellR (first : Bool) : List PT → Bytes
  | [] => []
  | t :: r => (if first then told t else 32 :: told t) ++ tellR false r
def print14 (l : List PT) : Bytes × Nat :=
  if l.any (fun t => !mayBe t) then ([], 2) else if maxText < (tellR true l).length then ([], 3) else (tellR true l, 0)
def sameOne (a b : PT) : Bool := a.kind == b.kind && (a.text == b.text && a.num == b.num)
def same14 : List PT → List PT → Bool
  | [], [] => true
  | a :: r, b :: s => sameOne a b && same14 r s
  | _, _ => false
def line14 (s : Bytes) (at_ : Int) : Nat := 1 + (s.take at_.toNat).count 10

theorem quoteByte_len (c : UInt8) : (quoteByte c).length ≤ 4 := by
  unfold quoteByte; repeat' split
  all_goals simp
theorem quote_len (s : Bytes) : (quote s).length ≤ 4 * s.length + 2 := by
  unfold quote
  have : (s.flatMap quoteByte).length ≤ 4 * s.length := by
    induction s with
    | nil => simp
    | cons c r ih => have := quoteByte_len c; simp only [List.flatMap_cons, List.length_append, List.length_cons]; omega
  rw [List.length_cons, List.length_append, List.length_cons, List.length_nil]; omega
end Go.Proofs.YtbdheihjnkfpiaaGreatDoor
