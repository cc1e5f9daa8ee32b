/-
  The document's digit and number walked.
-/
import Derived.Test.YtimglodailhkaaaGreatRl
namespace Go.Proofs.YtimglodailhkaaaGreat
open Go Go.RowKit
/-- What a digit counts. -/
def dig31 (c : UInt8) : Int := if 97 ≤ c.toNat ∧ c.toNat ≤ 102 then c.toNat - 87 else if 48 ≤ c.toNat ∧ c.toNat ≤ 57 then c.toNat - 48 else 0
theorem dig31_range (c : UInt8) : 0 ≤ dig31 c ∧ dig31 c ≤ 15 := by unfold dig31; split; omega; split <;> omega
/-- Digits, counted below 0. -/
def numLoop : Bytes → Int → Option Int
  | [], n => some n
  | c :: l, n => if 9 < dig31 c ∨ n < Int.tdiv (-9223372036854775808 + dig31 c) 10 then none else numLoop l (10 * n - dig31 c)
def numTail (neg : Bool) (s : Bytes) : Int := if 19 < s.length then 0 else match numLoop s 0 with | none => 0 | some n => if neg then n else if n = -9223372036854775808 then n else -n
def number31 (s : Bytes) : Int := if s.head? = some 45 then numTail true s.tail else numTail false s
end Go.Proofs.YtimglodailhkaaaGreat
