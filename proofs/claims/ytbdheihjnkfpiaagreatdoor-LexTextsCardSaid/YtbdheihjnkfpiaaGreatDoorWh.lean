/-
  A slice of bytes that a call has made: what it holds, the text that it turns into, a byte appended.
-/
import Derived.Test.YtbdheihjnkfpiaaGreatDoorWd
import Derived.Lib.SlBytesRow
namespace Go.Proofs.YtbdheihjnkfpiaaGreatDoor
open Go Go.RowKit

def byteV (c : UInt8) : Value := .int .u8 c.toNat
/-- The slice v owns these bytes, in a block from base on (or it is nil, and there are none). -/
def OwnsB (w : World) (base : Nat) (v : Value) (bs : Bytes) : Prop := w.ownsRow base 5 1 v bs.length (bs.map byteV)
theorem OwnsB.nil (w : World) (base : Nat) : OwnsB w base (.slice none 0 0) [] := World.ownsRow_nil w base _ _
theorem OwnsB.kept {X : Nat → Prop} {w w' : World} {base : Nat} {v : Value} {bs : Bytes} (h : OwnsB w base v bs) (hf : Fr X w w') (hx : ∀ k, base ≤ k → ¬ X k) : OwnsB w' base v bs :=
  hf.owns h fun k hk => hx k ((World.ownsRow.lt h k hk).1)
theorem OwnsB.drewN {w : World} {base : Nat} {v : Value} {bs : Bytes} (h : OwnsB w base v bs) (n : Nat) : OwnsB (w.drewN n) base v bs := h
theorem OwnsB.conv {w : World} {base : Nat} {v : Value} {bs : Bytes} (h : OwnsB w base v bs) :
    (convert 56 9 v).run Tryz.prog w = .ok (.string ⟨bs.toArray⟩) w := by
  rcases h.2 with ⟨rfl, hn⟩ | ⟨g, cap, cur, rfl, hb, hg, hc, hm, hs, ht⟩
  · obtain rfl : bs = [] := List.eq_nil_of_length_eq_zero hn
    rw [run_convert_bytes_string w _ _ _ _ _ _ Tryz.underlying56 Tryz.underlying5 Tryz.underlying9]
    simp [Conv.bytesToString]
    rfl
  · have hsz : (ByteArray.mk bs.toArray).size = bs.length := by simp [ByteArray.size]
    have hB : Lib.Bytes w g 0 ⟨bs.toArray⟩ := by
      intro i hi
      have hi' : i < bs.length := by rw [← hsz]; exact hi
      have h1 := World.ownsRow.cellAt h i (by omega)
      rw [Nat.zero_add, h1]
      rw [List.getElem?_map, List.getElem?_eq_getElem hi']
      rfl
    have := Lib.run_convert_whole (P := Tryz.prog) w 56 5 9 Tryz.underlying56 Tryz.underlying5 Tryz.underlying9 g 0 ⟨bs.toArray⟩ hB cap
    rw [hsz] at this
    exact this
theorem infoU8 : (Tryz.prog.info? 5).map (fun i => (i.zero, i.size, i.bytes)) = some (some (.int .u8 0), 1, 1) := by kernel_rfl
theorem new_cell (w : World) (x : Value) (t : TypeId) : (w.alloc (.cells #[x] t)).cell? ⟨w.heap.size, 0, none⟩ = some x := by
  unfold World.cell?; rw [heap_alloc_new]; rfl
theorem new_cell_at (w : World) (x : Value) (t : TypeId) (n : Nat) (h : w.heap.size = n) : (w.alloc (.cells #[x] t)).cell? ⟨n, 0, none⟩ = some x := h ▸ new_cell w x t
/-- 'append(out, c)' to a slice of bytes that the call has made. -/
theorem wpList_append_byte {w : World} {ops : Array Oper} {rest : List Oper} {o : Oper} {a : Act} {Q : Exit → Act → World → Prop} (hgd : o.guard = none) (s x : Operand)
    (ho : o.op = .call { callee := .builtin .append, args := #[s, x], argTypes := #[56, 56] })
    (base : Nat) (v : Value) (bs : Bytes) (hs : a.eval s = v) (hown : OwnsB w base v bs) (g c : Nat) (b : UInt8) (hx : a.eval x = .slice (some ⟨g, 0, none⟩) 1 c) (hcell : w.cell? ⟨g, 0, none⟩ = some (byteV b))
    (hlen : bs.length + 1 ≤ 140737488355328) (hbase : base ≤ w.heap.size)
    (h : ∀ v' w', OwnsB w' base v' (bs ++ [b]) → Fr (fun k => base ≤ k) w w' → wpList Tryz.prog ops Q rest (a.put o.dst v') w') : wpList Tryz.prog ops Q (o :: rest) a w := by
  obtain ⟨i0, hi, hz0, hz1, hz2⟩ := info_parts infoU8
  refine wpList_append_own (P := Tryz.prog) w hgd s x 56 ho base 5 i0 (.int .u8 0) 1 1 Tryz.underlying56 hi hz0 hz1 hz2 rfl (by decide) v bs.length (bs.map byteV) hs hown ⟨g, 0, none⟩ 1 c [byteV b] hx rfl ?_ ?_ ?_ ?_ hbase ?_
  · intro j u hu
    match j with
    | 0 => simp at hu; subst hu; exact hcell
    | j + 1 => simp at hu
  · intro u hu; simp at hu; subst hu; rfl
  · unfold maxLen; omega
  · omega
  · intro v' w' h1 h2 _
    refine h v' w' ?_ ((Fr.refl _ _).grown h2 fun k hk _ => (World.ownsRow.lt hown k hk).1)
    unfold OwnsB
    simpa using h1
end Go.Proofs.YtbdheihjnkfpiaaGreatDoor
