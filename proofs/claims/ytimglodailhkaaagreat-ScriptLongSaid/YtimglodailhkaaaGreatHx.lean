/-
  The document's Hex walked (append of two bytes in a region that draws: go_region_law with step_append_lies).
-/
import Derived.Test.YtimglodailhkaaaGreatOb
import Derived.Test.YtimglodailhkaaaGreatLn
import Derived.BigRegion
import Derived.Deep.RegionLaw
import Derived.Deep.AppendLies
namespace Go.Proofs.YtimglodailhkaaaGreat
open Go Go.RowKit
theorem heap_drew (w : World) : w.drew.heap = w.heap := rfl
theorem hex_step (l : Bytes) (i : Nat) (h : i < l.length) : (l.take i).flatMap hexPair ++ hexPair l[i] = (l.take (i + 1)).flatMap hexPair := by
  rw [List.take_succ_eq_append_getElem h, List.flatMap_append]; simp
theorem hex_len : ∀ (l : Bytes), (l.flatMap hexPair).length = l.length * 2
  | [] => rfl
  | c :: l => by rw [List.flatMap_cons, List.length_append, hex_len l, List.length_cons]; show 2 + _ = _; omega
theorem CellsAt.byte {w : World} {a : Option Addr} {l : Bytes} (h : CellsAt w a (byteCs l)) (i : Nat) (hi : i < l.length) : ∃ b off, a = some ⟨b, off, none⟩ ∧ b < w.heap.size ∧ w.cell? ⟨b, off + i, none⟩ = some (.int .u8 l[i].toNat) := by
  obtain ⟨b, off, e, hl, hc⟩ := h.one (j := i) (by simpa [byteCs] using hi)
  exact ⟨b, off, e, hl, hc i _ (by simp [byteCs, hi])⟩
def sixteenB : ByteArray := ⟨#[48, 49, 50, 51, 52, 53, 54, 55, 56, 57, 97, 98, 99, 100, 101, 102]⟩
theorem sixteen_at (i : Nat) (h : i < 16) : sixteenB[i]'h = hexD i := by
  have : ∀ j : Fin 16, sixteenB[j.val]'j.isLt = hexD j.val := by decide
  exact this ⟨i, h⟩
end Go.Proofs.YtimglodailhkaaaGreat
