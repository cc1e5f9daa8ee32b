/-
  One byte more in quotes.
-/
import Derived.Test.YtbdheihjnkfpiaaGreatDoorPs
namespace Go.Proofs.YtbdheihjnkfpiaaGreatDoor
theorem quote_step (l : Bytes) (k : Nat) (h : k < l.length) : (l.take (k + 1)).flatMap quoteByte = (l.take k).flatMap quoteByte ++ quoteByte l[k] := by
  rw [List.take_succ_eq_append_getElem h, List.flatMap_append]; simp
end Go.Proofs.YtbdheihjnkfpiaaGreatDoor
