/-
  The document's words walked.
-/
import Derived.Test.YtimglodailhkaaaGreatNu
import Derived.Deep.RegionLaw
import Derived.Deep.AppendLies
namespace Go.Proofs.YtimglodailhkaaaGreat
open Go Go.RowKit
/-- A line's words, parted by blanks: the last one is still growing. -/
def wordsFrom (done : List Bytes) (cur : Bytes) : Bytes → List Bytes
  | [] => done ++ [cur]
  | c :: l => if c = 32 then wordsFrom (done ++ [cur]) [] l else wordsFrom done (cur ++ [c]) l
def words31 (s : Bytes) : List Bytes := wordsFrom [] [] s
def strV (b : Bytes) : Value := .string ⟨b.toArray⟩
/-- The slice v owns these words. -/
def OwnsS (w : World) (base : Nat) (v : Value) (ws : List Bytes) : Prop := w.ownsRow base 9 1 v ws.length (ws.map strV)
/-- Where words are written: the block is known. -/
structure WS (w : World) (g cap : Nat) (ws : List Bytes) (W : World) : Prop where
  own : OwnsS W w.heap.size (.slice (some ⟨g, 0, none⟩) ws.length cap) ws
  fr : Fr No w W
  lt : w.heap.size ≤ g ∧ g < W.heap.size
theorem WS.drew {w : World} {g cap : Nat} {ws : List Bytes} {W : World} (h : WS w g cap ws W) : WS w g cap ws W.drew := ⟨h.own, h.fr.drew, h.lt⟩
theorem WS.no {w : World} {g cap : Nat} {ws : List Bytes} {W W' : World} (h : WS w g cap ws W) (hf : Fr No W W') : WS w g cap ws W' :=
  ⟨hf.owns h.own (fun _ _ h => h), h.fr.trans_same hf, h.lt.1, Nat.lt_of_lt_of_le h.lt.2 hf.size⟩
end Go.Proofs.YtimglodailhkaaaGreat
