/-
  The document's Same walked.
-/
import Derived.Test.YtimglodailhkaaaGreatEv
import Derived.Deep.LoopGhost
import Derived.Deep.DeepCutAuto
import Derived.Deep.DeepMust
import Derived.Deep.CutBlock
import Derived.BigQuiet
import Derived.Deep.QuietTactic
namespace Go.Proofs.YtimglodailhkaaaGreat
open Go Go.RowKit
theorem cells5 {w : World} {b : Nat} {v0 v1 v2 v3 v4 : Value} {t : TypeId} (h : w.heap[b]? = some (.cells #[v0, v1, v2, v3, v4] t (0, 0))) :
    (w.cell? ⟨b, 0, none⟩ = some v0 ∧ w.cell? ⟨b, 1, none⟩ = some v1 ∧ w.cell? ⟨b, 2, none⟩ = some v2 ∧ w.cell? ⟨b, 3, none⟩ = some v3 ∧ w.cell? ⟨b, 4, none⟩ = some v4) ∧ b < w.heap.size :=
  ⟨⟨by simp [World.cell?, h], by simp [World.cell?, h], by simp [World.cell?, h], by simp [World.cell?, h], by simp [World.cell?, h]⟩, lt_of_block h⟩
theorem CellsAt.one {w : World} {a : Option Addr} {cs : List Value} (h : CellsAt w a cs) {j : Nat} (hj : j < cs.length) : ∃ b off, a = some ⟨b, off, none⟩ ∧ b < w.heap.size ∧ ∀ j v, cs[j]? = some v → w.cell? ⟨b, off + j, none⟩ = some v := by
  rcases h with h | h
  · subst h; simp at hj
  · exact h
theorem CellsAt.int {w : World} {a : Option Addr} {l : List Int} (h : CellsAt w a (intCs l)) (i : Nat) (hi : i < l.length) : ∃ b off, a = some ⟨b, off, none⟩ ∧ b < w.heap.size ∧ w.cell? ⟨b, off + i, none⟩ = some (.int .i64 l[i]) := by
  obtain ⟨b, off, e, hl, hc⟩ := h.one (j := i) (by simpa [intCs] using hi)
  exact ⟨b, off, e, hl, hc i _ (by simp [intCs, hi])⟩
theorem CellsAt.fate {w : World} {a : Option Addr} {l : List (Int × Int)} (h : CellsAt w a (fateCs l)) (i : Nat) (hi : i < l.length) : ∃ b off, a = some ⟨b, off, none⟩ ∧ b < w.heap.size ∧ w.cell? ⟨b, off + i * 2, none⟩ = some (.int .i64 l[i].1) ∧ w.cell? ⟨b, off + i * 2 + 1, none⟩ = some (.int .i64 l[i].2) := by
  have h2 := fateCs_at l i hi
  obtain ⟨b, off, e, hl, hc⟩ := h.one (j := i * 2) (List.getElem?_eq_some_iff.1 h2.1).1
  exact ⟨b, off, e, hl, hc _ _ h2.1, hc _ _ h2.2⟩
theorem list_eq_at {α : Type} {l k : List α} (hn : l.length = k.length) (h : ∀ i (hi : i < l.length), l[i] = k[i]'(by omega)) : l = k := List.ext_getElem hn (fun i h1 _ => h i h1)
end Go.Proofs.YtimglodailhkaaaGreat
