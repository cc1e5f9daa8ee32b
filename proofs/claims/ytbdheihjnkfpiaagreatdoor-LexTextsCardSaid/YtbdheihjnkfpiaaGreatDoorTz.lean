/-
  The old blocks' number.
-/
import Derived.Test.YtbdheihjnkfpiaaGreatDoorTw
namespace Go.Proofs.YtbdheihjnkfpiaaGreatDoor
open Go Go.RowKit
theorem begin_size : Nat.ble 12 (begin Tryz.prog (fun _ _ => 0) default).world.heap.size = true := by kernel_rfl
theorem globals_size : Nat.ble Tryz.prog.globals.size 11 = true := by kernel_rfl
/-- The old blocks are eight at least. -/
theorem shaped_size {W : World} (h : W.ShapedOpen Tryz.prog) : 8 ≤ W.heap.size := by
  obtain ⟨o, _, ho, _⟩ := h.2 11 (Nat.le_of_ble_eq_true globals_size) (Nat.lt_of_lt_of_le (by decide : 11 < 12) (Nat.le_of_ble_eq_true begin_size))
  have := lt_of_block ho
  omega
end Go.Proofs.YtbdheihjnkfpiaaGreatDoor
