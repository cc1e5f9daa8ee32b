/-
  Events in memory.
-/
import Derived.Test.YtimglodailhkaaaGreatKit
import Derived.Test.YtimglodailhkaaaGreatSpec
import Derived.Test.YtimglodailhkaaaGreatProg
import Derived.Lib.BufferRead
namespace Go.Proofs.YtimglodailhkaaaGreat
open Go Go.RowKit
/-- These cells stand where a slice points. -/
def CellsAt (w : World) (a : Option Addr) (cs : List Value) : Prop :=
  cs = [] ∨ ∃ b off, a = some ⟨b, off, none⟩ ∧ b < w.heap.size ∧ ∀ j v, cs[j]? = some v → w.cell? ⟨b, off + j, none⟩ = some v
theorem CellsAt.fr {X : Nat → Prop} {w w' : World} {a : Option Addr} {cs : List Value} (h : CellsAt w a cs) (hf : Fr X w w') (hX : ∀ b off, a = some ⟨b, off, none⟩ → ¬ X b) : CellsAt w' a cs := by
  rcases h with h | ⟨b, off, e, hl, hc⟩
  · exact .inl h
  · exact .inr ⟨b, off, e, Nat.lt_of_lt_of_le hl hf.size, fun j v hj => (hf.cell (p := ⟨b, off + j, none⟩) hl (hX b off e)).trans (hc j v hj)⟩
theorem CellsAt.no {w w' : World} {a : Option Addr} {cs : List Value} (h : CellsAt w a cs) (hf : Fr No w w') : CellsAt w' a cs := h.fr hf (fun _ _ _ h => h)
def byteCs (l : Bytes) : List Value := l.map fun c => .int .u8 c.toNat
def intCs (l : List Int) : List Value := l.map fun n => .int .i64 n
def fateCs (l : List (Int × Int)) : List Value := l.flatMap fun f => [.int .i64 f.1, .int .i64 f.2]
theorem fateCs_at : ∀ (l : List (Int × Int)) (j : Nat) (hj : j < l.length), (fateCs l)[j * 2]? = some (.int .i64 l[j].1) ∧ (fateCs l)[j * 2 + 1]? = some (.int .i64 l[j].2)
  | [], j, hj => absurd hj (Nat.not_lt_zero _)
  | f :: l, 0, _ => ⟨rfl, rfl⟩
  | f :: l, j + 1, hj => by
    have h := fateCs_at l j (by simpa using hj)
    have e1 : (j + 1) * 2 = j * 2 + 1 + 1 := by omega
    have e2 : (j + 1) * 2 + 1 = j * 2 + 1 + 1 + 1 := by omega
    rw [e1]
    exact h
/-- A value is an event's. -/
structure EvAt (w : World) (v : Value) (e : Ev) : Prop where
  form : ∃ a1 c1 a2 c2 a3 c3, v = .agg #[.int .i64 e.kind, .int .i64 e.conn, .slice a1 e.bytes.length c1, .slice a2 e.fates.length c2, .slice a3 e.picks.length c3] ∧
    CellsAt w a1 (byteCs e.bytes) ∧ CellsAt w a2 (fateCs e.fates) ∧ CellsAt w a3 (intCs e.picks)
theorem EvAt.no {w w' : World} {v : Value} {e : Ev} (h : EvAt w v e) (hf : Fr No w w') : EvAt w' v e := by
  obtain ⟨a1, c1, a2, c2, a3, c3, rfl, h1, h2, h3⟩ := h.form
  exact ⟨a1, c1, a2, c2, a3, c3, rfl, h1.no hf, h2.no hf, h3.no hf⟩
/-- What a computer can hold. -/
def Ev.small (e : Ev) : Prop := e.bytes.length ≤ 1000000000000 ∧ e.fates.length ≤ 1000000000000 ∧ e.picks.length ≤ 1000000000000
/-- string of bytes. -/
theorem conv_bytes (w : World) (a : Option Addr) (c : Nat) (l : Bytes) (h : CellsAt w a (byteCs l)) :
    (convert 24 9 (.slice a l.length c)).run Tryz.prog w = .ok (.string ⟨l.toArray⟩) w := by
  rcases h with h | ⟨b, off, rfl, hl, hc⟩
  · have h0 : l = [] := by simpa [byteCs] using h
    subst h0
    cases a with
    | none => exact Lib.run_convert_nil_bytes w _ _ 5 c Tryz.underlying24 Tryz.underlying5 Tryz.underlying9
    | some p => exact run_convert_bytes_back (P := Tryz.prog) w _ _ 5 p c [] Tryz.underlying24 Tryz.underlying5 Tryz.underlying9 (fun j hj => absurd hj (Nat.not_lt_zero _))
  · refine run_convert_bytes_back (P := Tryz.prog) w _ _ 5 ⟨b, off, none⟩ c l Tryz.underlying24 Tryz.underlying5 Tryz.underlying9 (fun j hj => ?_)
    have hadd : (⟨b, off, none⟩ : Addr).add j = ⟨b, off + j, none⟩ := by
      unfold Addr.add
      split
      · rename_i h0; subst h0; rfl
      · rfl
    rw [hadd]
    exact hc j _ (by simp [byteCs, hj])
end Go.Proofs.YtimglodailhkaaaGreat
