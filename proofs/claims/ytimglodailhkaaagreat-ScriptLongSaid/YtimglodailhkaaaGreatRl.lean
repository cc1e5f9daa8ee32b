/-
  The document's Line walked.
-/
import Derived.Test.YtimglodailhkaaaGreatIt
import Derived.Lib.ItoaLen
import Derived.Deep.RegionHeld3
namespace Go.Proofs.YtimglodailhkaaaGreat
open Go Go.RowKit
def i64 (n : Int) : Prop := -9223372036854775808 ≤ n ∧ n ≤ 9223372036854775807
/-- Its numbers are a computer's. -/
structure Ev.nums (e : Ev) : Prop where
  conn : i64 e.conn
  fates : ∀ f ∈ e.fates, i64 f.2
  picks : ∀ n ∈ e.picks, i64 n
theorem str_app (x : Bytes) (y : Bytes) : (⟨x.toArray⟩ : ByteArray) ++ ⟨y.toArray⟩ = ⟨(x ++ y).toArray⟩ := ByteArray.mk_append_mk x y
theorem size_mk (x : Bytes) : (⟨x.toArray⟩ : ByteArray).size = x.length := by simp [ByteArray.size]
theorem take_flat {α : Type} (f : α → Bytes) (l : List α) (i : Nat) (h : i < l.length) : (l.take (i + 1)).flatMap f = (l.take i).flatMap f ++ f l[i] := by
  rw [List.take_succ_eq_append_getElem h, List.flatMap_append]; simp
theorem itoa_small (n : Int) (h : i64 n) : (Lib.itoa n).length ≤ 21 := Lib.itoa_length_le n h.1 h.2
end Go.Proofs.YtimglodailhkaaaGreat
