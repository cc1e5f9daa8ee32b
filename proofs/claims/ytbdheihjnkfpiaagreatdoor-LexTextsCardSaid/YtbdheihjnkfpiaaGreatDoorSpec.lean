/-
  What the words of a proto file are, in plain terms: lists of bytes, no program.
-/
namespace Go.Proofs.YtbdheihjnkfpiaaGreatDoor

abbrev Bytes := List UInt8

/-- The class of a byte: 1 letter, 2 digit, 3 quote, 4 sign, 5 gap, 0 other. -/
def classN (c : Int) : Int :=
  if c = 95 then 1
  else if (97 ≤ c ∧ c ≤ 122) ∨ (65 ≤ c ∧ c ≤ 90) then 1
  else if 48 ≤ c ∧ c ≤ 57 then 2
  else if c = 34 ∨ c = 39 then 3
  else if c = 59 ∨ c = 123 ∨ c = 125 ∨ c = 91 ∨ c = 93 ∨ c = 60 ∨ c = 62 ∨ c = 40 ∨ c = 41 ∨ c = 61 ∨ c = 44 ∨ c = 46 ∨ c = 45 then 4
  else if c = 32 ∨ (9 ≤ c ∧ c ≤ 13) then 5 else 0
def cls (c : UInt8) : Int := classN (c.toNat : Int)
def isWord (c : UInt8) : Bool := cls c == 1 || cls c == 2
def isHex (c : UInt8) : Bool := (48 ≤ c && c ≤ 57) || (97 ≤ c && c ≤ 102) || (65 ≤ c && c ≤ 70)
def isTen (c : UInt8) : Bool := 48 ≤ c && c ≤ 57
def isEight (c : UInt8) : Bool := 48 ≤ c && c ≤ 55
/-- What a digit counts. -/
def digV (c : UInt8) : Nat := if 97 ≤ c then c.toNat - 97 + 10 else if 65 ≤ c then c.toNat - 65 + 10 else c.toNat - 48
def valFrom (base : Nat) (x : Nat) (l : Bytes) : Nat := l.foldl (fun n c => base * n + digV c) x
def valOf (base : Nat) (l : Bytes) : Nat := valFrom base 0 l

/-- How many bytes belong to a word. -/
def wordLen (l : Bytes) : Nat := (l.takeWhile isWord).length
/-- How many bytes stand ahead of the line's end. -/
def lineLen (l : Bytes) : Nat := (l.takeWhile (fun c => c != 10)).length
/-- How many bytes up to behind the next star and slash. -/
def endLen : Bytes → Option Nat
  | [] => none
  | c :: r => if c = 42 ∧ r.head? = some 47 then some 2 else (endLen r).map (· + 1)

theorem endLen_le : ∀ (l : Bytes) (n : Nat), endLen l = some n → n ≤ l.length ∧ 2 ≤ n
  | [], n, h => by simp [endLen] at h
  | c :: r, n, h => by
    unfold endLen at h
    split at h
    · rename_i hc
      cases r with
      | nil => simp at hc
      | cons d r => cases h; simp
    · cases he : endLen r with
      | none => simp [he] at h
      | some m =>
        have := endLen_le r m he
        simp [he] at h; subst h; simp; omega

/-- Blanks and comments at the head: how many bytes; does the last comment end? -/
def gapLen (l : Bytes) : Nat × Bool :=
  match l with
  | [] => (0, true)
  | c :: r =>
    if cls c = 5 then ((gapLen r).1 + 1, (gapLen r).2)
    else if c = 47 ∧ r.head? = some 47 then
      ((gapLen (r.drop (lineLen r))).1 + (lineLen r + 1), (gapLen (r.drop (lineLen r))).2)
    else if c = 47 ∧ r.head? = some 42 then
      match endLen (r.drop 1) with
      | none => (0, false)
      | some k => ((gapLen (r.drop (k + 1))).1 + (k + 2), (gapLen (r.drop (k + 1))).2)
    else (0, true)
termination_by l.length
decreasing_by all_goals (simp only [List.length_cons, List.length_drop]; omega)

/-- What an escape says behind the backslash: the byte, how many bytes it takes. -/
def escPlain (c : UInt8) : Option UInt8 :=
  if c = 97 then some 7 else if c = 98 then some 8 else if c = 102 then some 12 else if c = 110 then some 10 else if c = 114 then some 13
  else if c = 116 then some 9 else if c = 118 then some 11 else if c = 92 then some 92 else if c = 39 then some 39 else if c = 34 then some 34 else none
def escape : Bytes → Option (UInt8 × Nat)
  | [] => none
  | c :: r =>
    match escPlain c with
    | some x => some (x, 1)
    | none =>
      if c = 120 ∨ c = 88 then
        let d := (r.take 2).takeWhile isHex
        if d = [] then none else some (UInt8.ofNat (valOf 16 d), d.length + 1)
      else
        let d := ((c :: r).take 3).takeWhile isEight
        if d = [] then none else if 256 ≤ valOf 8 d then none else some (UInt8.ofNat (valOf 8 d), d.length)

/-- A text in quotes behind its first quote: the bytes, and how many bytes it takes, the last quote among them. -/
def textRun (q : UInt8) (l : Bytes) : Option (Bytes × Nat) :=
  match l with
  | [] => none
  | c :: r =>
    if c = q then some ([], 1)
    else if c = 10 ∨ c = 0 then none
    else if c = 92 then
      match escape r with
      | none => none
      | some (x, k) => (textRun q (r.drop k)).map fun p => (x :: p.1, p.2 + (k + 1))
    else (textRun q r).map fun p => (c :: p.1, p.2 + 1)
termination_by l.length
decreasing_by all_goals (simp only [List.length_cons, List.length_drop]; omega)

/-- A number's digits: its value, or the error's number. -/
def numOf (s : Bytes) : Except Nat Nat :=
  let x := s.take 2 = [48, 120] ∨ s.take 2 = [48, 88]
  let base := if x then 16 else if 1 < s.length ∧ s.head? = some 48 then 8 else 10
  let ok := if x then isHex else if 1 < s.length ∧ s.head? = some 48 then isEight else isTen
  let part := if x then s.drop 2 else s
  if part = [] ∨ ¬ part.all ok then .error 240
  else if 18446744073709551616 ≤ valOf base part then .error 4 else .ok (valOf base part)

/-- A word: kind, place, text, number. -/
structure Tok where
  kind : Nat
  place : Nat
  text : Bytes
  num : Nat
  deriving DecidableEq, Repr

/-- The token at the head: kind, text, number, how many bytes; or the error's number. -/
def tokAt (l : Bytes) : Except Nat (Nat × Bytes × Nat × Nat) :=
  match l with
  | [] => .error 240
  | c :: r =>
    if cls c = 1 then .ok (1, l.take (wordLen l), 0, wordLen l)
    else if cls c = 2 then
      match numOf (l.take (wordLen l)) with
      | .error e => .error e
      | .ok x => .ok (2, [], x, wordLen l)
    else if cls c = 3 then
      match textRun c r with
      | none => .error 240
      | some (t, n) => .ok (3, t, 0, n + 1)
    else if cls c = 4 then .ok (4, [c], 0, 1)
    else .error 240

theorem wordLen_pos {c : UInt8} {r : Bytes} (h : cls c = 1 ∨ cls c = 2) : 0 < wordLen (c :: r) := by
  have : isWord c = true := by rcases h with h | h <;> simp [isWord, h]
  simp [wordLen, this]

theorem tokAt_pos {l : Bytes} {k : Nat} {t : Bytes} {x n : Nat} (h : tokAt l = .ok (k, t, x, n)) : 0 < n ∧ l ≠ [] := by
  unfold tokAt at h
  split at h
  · cases h
  · rename_i c r
    refine ⟨?_, by simp⟩
    split at h
    · rename_i hc; cases h; exact wordLen_pos (.inl hc)
    · split at h
      · rename_i hc
        split at h
        · cases h
        · cases h; exact wordLen_pos (.inr hc)
      · split at h
        · split at h
          · cases h
          · cases h; omega
        · split at h
          · cases h; omega
          · cases h

/-- All tokens up to the first that can't be read; its place and the error's number. -/
def lexFrom (p : Nat) (l : Bytes) : List Tok × Option (Nat × Nat) :=
  if (gapLen l).2 = false then ([], some (p + (gapLen l).1, 240))
  else if l.drop (gapLen l).1 = [] then ([], none)
  else
    match _h : tokAt (l.drop (gapLen l).1) with
    | .error e => ([], some (p + (gapLen l).1, e))
    | .ok (k, t, x, n) =>
      let r := lexFrom (p + (gapLen l).1 + n) ((l.drop (gapLen l).1).drop n)
      (⟨k, p + (gapLen l).1, t, x⟩ :: r.1, r.2)
termination_by l.length
decreasing_by
  have := tokAt_pos _h
  have hne : l.drop (gapLen l).1 ≠ [] := this.2
  have : 0 < (l.drop (gapLen l).1).length := List.length_pos_iff.2 hne
  simp only [List.length_drop] at this ⊢
  omega

def maxText : Nat := 1048576
/-- All of it: P14.1. -/
def some14 (s : Bytes) : List Tok × Nat × Nat :=
  if maxText < s.length then ([], 0, 3)
  else match lexFrom 0 s with
    | (l, none) => (l, 0, 0)
    | (l, some (p, e)) => (l, p, e)
def lex14 (s : Bytes) : List Tok × Nat × Nat :=
  if (some14 s).2.2 = 0 then ((some14 s).1, 0, 0) else ([], (some14 s).2.1, (some14 s).2.2)
end Go.Proofs.YtbdheihjnkfpiaaGreatDoor
