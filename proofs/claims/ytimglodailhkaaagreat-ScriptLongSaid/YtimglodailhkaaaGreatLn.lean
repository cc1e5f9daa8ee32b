/-
  Events' lines, in plain terms.
-/
import Derived.Test.YtimglodailhkaaaGreatSpec
import Derived.Lib.ItoaNum
namespace Go.Proofs.YtimglodailhkaaaGreat
open Go
/-- A digit to the base sixteen. -/
def hexD (d : Nat) : UInt8 := if d < 10 then UInt8.ofNat (48 + d) else UInt8.ofNat (87 + d)
def hexPair (c : UInt8) : Bytes := [hexD (c.toNat / 16), hexD (c.toNat % 16)]
def hex31 (l : Bytes) : Bytes := if l = [] then [45] else l.flatMap hexPair
def goodB : Bytes := [32, 103, 111, 111, 100]
def failB : Bytes := [32, 102, 97, 105, 108, 32]
def fate31 (f : Int × Int) : Bytes := if f.1 = 0 then goodB else failB ++ Lib.itoa f.2
def pick31 (n : Int) : Bytes := 32 :: Lib.itoa n
def connectB : Bytes := [99, 111, 110, 110, 101, 99, 116]
def sendB : Bytes := [115, 101, 110, 100]
def closeB : Bytes := [99, 108, 111, 115, 101]
def feedB : Bytes := [102, 101, 101, 100]
def crashB : Bytes := [99, 114, 97, 115, 104]
/-- The line of an event that may be. -/
def line31 (e : Ev) : Bytes :=
  if e.kind = 1 then connectB
  else if e.kind = 2 then sendB ++ 32 :: Lib.itoa e.conn ++ 32 :: hex31 e.bytes
  else if e.kind = 3 then closeB ++ 32 :: Lib.itoa e.conn
  else if e.kind = 4 then feedB ++ e.fates.flatMap fate31
  else crashB ++ e.picks.flatMap pick31
end Go.Proofs.YtimglodailhkaaaGreat
