/-
  The law's small functions: num; long.
-/
import Derived.Test.YtimglodailhkaaaGreatCh
namespace Go.Proofs.YtimglodailhkaaaGreat
open Go Go.RowKit
theorem num_any (n : Int) (w : World) : Calls Tryz.prog 9 #[.int .i64 n] w fun e w' => e = .returned (.int .i64 n) ∧ w = w' := by
  go_enter Tryz.func9, Tryz.ntmps9
  go_wp2_with fail
  go_ret
  exact ⟨rfl, rfl⟩
/-- The cells of an event at b, off. -/
def CellsE (w : World) (b off : Nat) (e : Ev) : Prop :=
  ∃ a1 c1 a2 c2 a3 c3, (w.cell? ⟨b, off, none⟩ = some (.int .i64 e.kind) ∧ w.cell? ⟨b, off + 1, none⟩ = some (.int .i64 e.conn) ∧ w.cell? ⟨b, off + 2, none⟩ = some (.slice a1 e.bytes.length c1) ∧
    w.cell? ⟨b, off + 3, none⟩ = some (.slice a2 e.fates.length c2) ∧ w.cell? ⟨b, off + 4, none⟩ = some (.slice a3 e.picks.length c3)) ∧
    CellsAt w a1 (byteCs e.bytes) ∧ CellsAt w a2 (fateCs e.fates) ∧ CellsAt w a3 (intCs e.picks)
/-- Events where a slice points. -/
def EvsAt (w : World) (a : Option Addr) (es : List Ev) : Prop :=
  es = [] ∨ ∃ b off, a = some ⟨b, off, none⟩ ∧ b < w.heap.size ∧ ∀ (i : Nat) (h : i < es.length), CellsE w b (off + i * 5) es[i]
end Go.Proofs.YtimglodailhkaaaGreat
