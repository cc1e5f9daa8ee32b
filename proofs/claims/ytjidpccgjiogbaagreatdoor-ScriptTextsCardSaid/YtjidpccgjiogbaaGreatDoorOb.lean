/-
  A slice of bytes that a call has made: what it holds, the text that it turns into, bytes appended.
-/
import Derived.Test.YtjidpccgjiogbaaGreatDoorCh
import Derived.Lib.SlBytesRow
import Derived.Lib.ItoaNum
import Derived.StillTailTactics
namespace Go.Proofs.YtjidpccgjiogbaaGreatDoor
open Go Go.RowKit
def byteV (c : UInt8) : Value := .int .u8 c.toNat
/-- The slice v owns these bytes, in a block from base on (or it is nil, and there are none). -/
def OwnsB (w : World) (base : Nat) (v : Value) (bs : Bytes) : Prop := w.ownsRow base 5 1 v bs.length (bs.map byteV)
theorem OwnsB.nil (w : World) (base : Nat) : OwnsB w base (.slice none 0 0) [] := World.ownsRow_nil w base _ _
theorem OwnsB.kept {X : Nat → Prop} {w w' : World} {base : Nat} {v : Value} {bs : Bytes} (h : OwnsB w base v bs) (hf : Fr X w w') (hx : ∀ k, base ≤ k → ¬ X k) : OwnsB w' base v bs :=
  hf.owns h fun k hk => hx k ((World.ownsRow.lt h k hk).1)
theorem OwnsB.no {w w' : World} {base : Nat} {v : Value} {bs : Bytes} (h : OwnsB w base v bs) (hf : Fr No w w') : OwnsB w' base v bs := h.kept hf (fun _ _ h => h)
theorem OwnsB.shape {w : World} {base : Nat} {v : Value} {bs : Bytes} (h : OwnsB w base v bs) : ∃ a n c, v = .slice a n c := by
  rcases h.2 with ⟨rfl, _⟩ | ⟨g, cap, cur, rfl, _⟩
  · exact ⟨_, _, _, rfl⟩
  · exact ⟨_, _, _, rfl⟩
theorem OwnsB.conv {w : World} {base : Nat} {v : Value} {bs : Bytes} (h : OwnsB w base v bs) :
    (convert 23 9 v).run Tryz.prog w = .ok (.string ⟨bs.toArray⟩) w := by
  rcases h.2 with ⟨rfl, hn⟩ | ⟨g, cap, cur, rfl, hb, hg, hc, hm, hs, ht⟩
  · obtain rfl : bs = [] := List.eq_nil_of_length_eq_zero hn
    rw [run_convert_bytes_string w _ _ _ _ _ _ Tryz.underlying23 Tryz.underlying5 Tryz.underlying9]
    simp [Conv.bytesToString]
    rfl
  · have hsz : (ByteArray.mk bs.toArray).size = bs.length := by simp [ByteArray.size]
    have hB : Lib.Bytes w g 0 ⟨bs.toArray⟩ := by
      intro i hi
      have hi' : i < bs.length := by rw [← hsz]; exact hi
      have h1 := World.ownsRow.cellAt h i (by omega)
      rw [Nat.zero_add, h1]
      rw [List.getElem?_map, List.getElem?_eq_getElem hi']
      rfl
    have := Lib.run_convert_whole (P := Tryz.prog) w 23 5 9 Tryz.underlying23 Tryz.underlying5 Tryz.underlying9 g 0 ⟨bs.toArray⟩ hB cap
    rw [hsz] at this
    exact this
/-- What it holds stands where it points. -/
theorem OwnsB.cells {w : World} {base : Nat} {v : Value} {bs : Bytes} (h : OwnsB w base v bs) : ∃ a c, v = .slice a bs.length c ∧ CellsAt w a (byteCs bs) := by
  have h0 := h
  unfold OwnsB at h0
  rcases h.2 with ⟨rfl, hn⟩ | ⟨g, cap, cur, rfl, hb, hg, hc, hm, hs, ht⟩
  · obtain rfl : bs = [] := List.eq_nil_of_length_eq_zero hn
    exact ⟨none, 0, rfl, .inl rfl⟩
  · refine ⟨_, cap, rfl, .inr ⟨g, 0, rfl, lt_of_block hg, fun j v hj => ?_⟩⟩
    have hj' : j < bs.length := by have := (List.getElem?_eq_some_iff.1 hj).1; simpa [byteCs] using this
    have h1 := World.ownsRow.cellAt h0 j (by omega)
    rw [Nat.zero_add, h1]
    simpa [byteCs, byteV] using hj
theorem infoU8 : (Tryz.prog.info? 5).map (fun i => (i.zero, i.size, i.bytes)) = some (some (.int .u8 0), 1, 1) := by kernel_rfl
/-- 'append(out, news...)' to a slice of bytes that the call has made. -/
theorem wpList_append_bytes {w : World} {ops : Array Oper} {rest : List Oper} {o : Oper} {a : Act} {Q : Exit → Act → World → Prop} (hgd : o.guard = none) (s x : Operand)
    (ho : o.op = .call { callee := .builtin .append, args := #[s, x], argTypes := #[23, 23] })
    (base : Nat) (v : Value) (bs : Bytes) (hs : a.eval s = v) (hown : OwnsB w base v bs) (g c m : Nat) (news : Bytes) (hm : news.length = m) (hx : a.eval x = .slice (some ⟨g, 0, none⟩) m c) (hcell : ∀ j b, news[j]? = some b → w.cell? ⟨g, j, none⟩ = some (byteV b))
    (hlen : bs.length + m ≤ 140737488355328) (hbase : base ≤ w.heap.size)
    (h : ∀ v' w', OwnsB w' base v' (bs ++ news) → Fr (fun k => base ≤ k) w w' → wpList Tryz.prog ops Q rest (a.put o.dst v') w') : wpList Tryz.prog ops Q (o :: rest) a w := by
  obtain ⟨i0, hi, hz0, hz1, hz2⟩ := info_parts infoU8
  refine wpList_append_own (P := Tryz.prog) w hgd s x 23 ho base 5 i0 (.int .u8 0) 1 1 Tryz.underlying23 hi hz0 hz1 hz2 rfl (by decide) v bs.length (bs.map byteV) hs hown ⟨g, 0, none⟩ m c (news.map byteV) hx (by simp [hm]) ?_ ?_ ?_ ?_ hbase ?_
  · intro j u hu
    have hadd : (⟨g, 0, none⟩ : Addr).add j = ⟨g, j, none⟩ := by unfold Addr.add; split <;> simp_all
    rw [hadd]
    rw [List.getElem?_map] at hu
    cases hn : news[j]? with
    | none => rw [hn] at hu; cases hu
    | some b => rw [hn] at hu; cases hu; exact hcell j b hn
  · intro u hu
    obtain ⟨b, _, rfl⟩ := List.mem_map.1 hu
    rfl
  · unfold maxLen; omega
  · omega
  · intro v' w' h1 h2 _
    refine h v' w' ?_ ((Fr.refl _ _).grown h2 fun k hk _ => (World.ownsRow.lt hown k hk).1)
    unfold OwnsB
    rw [List.map_append, List.length_append, hm]
    exact h1
/-- 'make([]byte, 0, n)'. -/
theorem make_bytes (w : World) (n : Nat) (hn : n ≤ 140737488355328) : ∃ Z : Array Value, Z.size = n ∧ (Instr.makeSlice 23 (.int .i64 0) (.int .i64 n)).run Tryz.prog w = .ok (.slice (some ⟨w.heap.size, 0, none⟩) 0 n) (w.alloc (.cells Z 5)) := by
  obtain ⟨i0, hi, hz0, hz1, hz2⟩ := info_parts infoU8
  refine ⟨_, ?_, run_make w 23 5 i0 (.int .u8 0) Tryz.underlying23 hi hz0 .i64 .i64 0 n (by omega) (by omega) (by rw [hz2]; omega) (by omega)⟩
  rw [size_madeCells, hz1]; simp
theorem owns_made (w : World) (n : Nat) (Z : Array Value) (hZ : Z.size = n) (hn : n ≤ 140737488355328) : OwnsB (w.alloc (.cells Z 5)) w.heap.size (.slice (some ⟨w.heap.size, 0, none⟩) 0 n) [] :=
  ⟨rfl, .inr ⟨w.heap.size, n, Z, rfl, Nat.le_refl _, heap_alloc_new w _, Nat.zero_le _, by unfold maxLen; omega, by rw [hZ, Nat.mul_one], by simp⟩⟩
end Go.Proofs.YtjidpccgjiogbaaGreatDoor
