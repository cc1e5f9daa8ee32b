/-
  A slice of bytes that a call has made: what it holds, the text that it turns into, bytes appended.
-/
import Derived.Test.YtimglodailhkaaaGreatCh
import Derived.Lib.SlBytesRow
import Derived.Lib.ItoaNum
import Derived.StillTailTactics
namespace Go.Proofs.YtimglodailhkaaaGreat
open Go Go.RowKit
def byteV (c : UInt8) : Value := .int .u8 c.toNat
/-- The slice v owns these bytes, in a block from base on (or it is nil, and there are none). -/
def OwnsB (w : World) (base : Nat) (v : Value) (bs : Bytes) : Prop := w.ownsRow base 5 1 v bs.length (bs.map byteV)
theorem OwnsB.nil (w : World) (base : Nat) : OwnsB w base (.slice none 0 0) [] := World.ownsRow_nil w base _ _
theorem OwnsB.kept {X : Nat → Prop} {w w' : World} {base : Nat} {v : Value} {bs : Bytes} (h : OwnsB w base v bs) (hf : Fr X w w') (hx : ∀ k, base ≤ k → ¬ X k) : OwnsB w' base v bs :=
  hf.owns h fun k hk => hx k ((World.ownsRow.lt h k hk).1)
theorem OwnsB.no {w w' : World} {base : Nat} {v : Value} {bs : Bytes} (h : OwnsB w base v bs) (hf : Fr No w w') : OwnsB w' base v bs := h.kept hf (fun _ _ h => h)
theorem OwnsB.shape {w : World} {base : Nat} {v : Value} {bs : Bytes} (h : OwnsB w base v bs) : ∃ a n c, v = .slice a n c := by
  rcases h.2 with ⟨rfl, _⟩ | ⟨g, cap, cur, rfl, _⟩
  · exact ⟨_, _, _, rfl⟩
  · exact ⟨_, _, _, rfl⟩
/-- What it holds stands where it points. -/
theorem OwnsB.cells {w : World} {base : Nat} {v : Value} {bs : Bytes} (h : OwnsB w base v bs) : ∃ a c, v = .slice a bs.length c ∧ CellsAt w a (byteCs bs) := by
  have h0 := h
  unfold OwnsB at h0
  rcases h.2 with ⟨rfl, hn⟩ | ⟨g, cap, cur, rfl, hb, hg, hc, hm, hs, ht⟩
  · obtain rfl : bs = [] := List.eq_nil_of_length_eq_zero hn
    exact ⟨none, 0, rfl, .inl rfl⟩
  · refine ⟨_, cap, rfl, .inr ⟨g, 0, rfl, lt_of_block hg, fun j v hj => ?_⟩⟩
    have hj' : j < bs.length := by have := (List.getElem?_eq_some_iff.1 hj).1; simpa [byteCs] using this
    have h1 := World.ownsRow.cellAt h0 j (by omega)
    rw [Nat.zero_add, h1]
    simpa [byteCs, byteV] using hj
theorem infoU8 : (Tryz.prog.info? 5).map (fun i => (i.zero, i.size, i.bytes)) = some (some (.int .u8 0), 1, 1) := by kernel_rfl
end Go.Proofs.YtimglodailhkaaaGreat
