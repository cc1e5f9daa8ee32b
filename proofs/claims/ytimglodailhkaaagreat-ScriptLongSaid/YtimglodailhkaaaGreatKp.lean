/-
  kept: an event that lies in memory of its own, with one more element behind each of its lists.
-/
import Derived.Test.YtimglodailhkaaaGreatSa
import Derived.Test.YtimglodailhkaaaGreatRp
import Derived.Deep.RegionHeld3
namespace Go.Proofs.YtimglodailhkaaaGreat
open Go Go.RowKit
/-- These cells stand in block g, from its start. -/
def Row (w : World) (g : Nat) (cs : List Value) : Prop := g < w.heap.size ∧ ∀ j v, cs[j]? = some v → w.cell? ⟨g, j, none⟩ = some v
theorem Row.no {w w' : World} {g : Nat} {cs : List Value} (h : Row w g cs) (hf : Fr No w w') : Row w' g cs :=
  ⟨Nat.lt_of_lt_of_le h.1 hf.size, fun j v hj => (hf.cell (p := ⟨g, j, none⟩) h.1 (fun h => h)).trans (h.2 j v hj)⟩
theorem Row.front {w : World} {g : Nat} {cs ds : List Value} (h : Row w g (cs ++ ds)) : CellsAt w (some ⟨g, 0, none⟩) cs :=
  .inr ⟨g, 0, rfl, h.1, fun j v hj => by
    rw [Nat.zero_add]
    exact h.2 j v (by rw [List.getElem?_append_left (List.getElem?_eq_some_iff.1 hj).1]; exact hj)⟩
theorem Row.at {w : World} {g : Nat} {cs ds : List Value} {n : Nat} (h : Row w g (cs ++ ds)) (hn : cs.length = n) (i : Nat) (v : Value) (hi : ds[i]? = some v) : w.cell? ⟨g, n + i, none⟩ = some v :=
  h.2 (n + i) v (by rw [List.getElem?_append_right (by omega), hn, Nat.add_sub_cancel_left]; exact hi)
/-- A value is an event's, and it is kept. -/
structure KeptAt (w : World) (v : Value) (e : Ev) : Prop where
  form : ∃ g1 c1 g2 c2 g3 c3, v = .agg #[.int .i64 e.kind, .int .i64 e.conn, .slice (some ⟨g1, 0, none⟩) e.bytes.length c1, .slice (some ⟨g2, 0, none⟩) e.fates.length c2, .slice (some ⟨g3, 0, none⟩) e.picks.length c3] ∧
    (Row w g1 (byteCs e.bytes ++ [.int .u8 165]) ∧ e.bytes.length + 1 ≤ c1) ∧ (Row w g2 (fateCs e.fates ++ [.int .i64 0, .int .i64 77]) ∧ e.fates.length + 1 ≤ c2) ∧ (Row w g3 (intCs e.picks ++ [.int .i64 77]) ∧ e.picks.length + 1 ≤ c3)
theorem KeptAt.at {w : World} {v : Value} {e : Ev} (h : KeptAt w v e) : EvAt w v e := by
  obtain ⟨g1, c1, g2, c2, g3, c3, rfl, ⟨h1, _⟩, ⟨h2, _⟩, ⟨h3, _⟩⟩ := h.form
  exact ⟨_, c1, _, c2, _, c3, rfl, h1.front, h2.front, h3.front⟩
theorem KeptAt.no {w w' : World} {v : Value} {e : Ev} (h : KeptAt w v e) (hf : Fr No w w') : KeptAt w' v e := by
  obtain ⟨g1, c1, g2, c2, g3, c3, rfl, ⟨h1, k1⟩, ⟨h2, k2⟩, ⟨h3, k3⟩⟩ := h.form
  exact ⟨g1, c1, g2, c2, g3, c3, rfl, ⟨h1.no hf, k1⟩, ⟨h2.no hf, k2⟩, ⟨h3.no hf, k3⟩⟩
end Go.Proofs.YtimglodailhkaaaGreat
