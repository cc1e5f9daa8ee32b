/-
  Part 32 of the proof of ProtoLoose and ProtoFinds.
-/
import Derived.Test.YtgmimekfmhfdgaaGreatDoorPl10
namespace Go.Proofs.YtgmimekfmhfdgaaGreatDoor
open Go.Lib
theorem gq {c:UInt8} {r:Bytes} (h:cls c=5):az (c :: r)=((az r).1+1,(az r).2):=by rw[az,if_pos h]
theorem ET {r:Bytes}:az (47 :: 47 :: r)=((az ((47 :: r).drop (bL (47 :: r)))).1+(bL (47 :: r)+1),(az ((47 :: r).drop (bL (47 :: r)))).2):=by
 rw[az,if_neg (by decide),if_pos (by simp)]
theorem Dy {r:Bytes} {k:Nat} (h:cO r=some k):az (47 :: 42 :: r)=((az (r.drop k)).1+(k+2),(az (r.drop k)).2):=by
 rw[az,if_neg (by decide),if_neg (by simp),if_pos (by simp),show((42 :: r).drop 1)=r from rfl,h];rfl
theorem Bh {r:Bytes}:cO (42 :: 47 :: r)=some 2:=by rw[cO,if_pos (by simp)]
theorem ml {c:UInt8} {r:Bytes} {k:Nat} (h:¬(c=42∧r.head? =some 47)) (hr:cO r=some k):cO (c :: r)=some (k+1):=by rw[cO,if_neg h,hr];rfl
end Go.Proofs.YtgmimekfmhfdgaaGreatDoor
