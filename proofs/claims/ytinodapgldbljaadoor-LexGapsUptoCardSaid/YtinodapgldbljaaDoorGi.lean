/-
  Slices of numbers that a call has made; one token alone.
-/
import Derived.Test.YtinodapgldbljaaDoorBk
import Derived.Test.YtinodapgldbljaaDoorGp
namespace Go.Proofs.YtinodapgldbljaaDoor
open Go Go.RowKit
def intV (n : Nat) : Value := .int .i64 n
/-- The slice v owns these numbers, in a block from base on (or it is nil, and there are none). -/
def OwnsI (w : World) (base : Nat) (v : Value) (xs : List Nat) : Prop := w.ownsRow base 3 1 v xs.length (xs.map intV)
theorem OwnsI.kept {w w' : World} {base : Nat} {v : Value} {xs : List Nat} (h : OwnsI w base v xs) (hf : Fr No w w') : OwnsI w' base v xs := hf.owns h fun _ _ h => h
theorem infoInt : (Tryd.prog.info? 3).map (fun i => (i.zero, i.size, i.bytes)) = some (some (.int .i64 0), 1, 8) := by kernel_rfl
/-- 'append(places, n)' to a slice of numbers that the call has made. -/
theorem wpList_append_int {w : World} {ops : Array Oper} {rest : List Oper} {o : Oper} {a : Act} {Q : Exit → Act → World → Prop} (hgd : o.guard = none) (s x : Operand)
    (ho : o.op = .call { callee := .builtin .append, args := #[s, x], argTypes := #[40, 40] })
    (base : Nat) (v : Value) (xs : List Nat) (hs : a.eval s = v) (hown : OwnsI w base v xs) (g c : Nat) (n : Nat) (hx : a.eval x = .slice (some ⟨g, 0, none⟩) 1 c) (hcell : w.cell? ⟨g, 0, none⟩ = some (.int .i64 n))
    (hlen : xs.length + 1 ≤ 1000000000) (hbase : base ≤ w.heap.size)
    (h : ∀ v' w', OwnsI w' base v' (xs ++ [n]) → Fr (fun k => base ≤ k) w w' → wpList Tryd.prog ops Q rest (a.put o.dst v') w') : wpList Tryd.prog ops Q (o :: rest) a w := by
  obtain ⟨i0, hi, hz0, hz1, hz2⟩ := info_parts infoInt
  refine wpList_append_own (P := Tryd.prog) w hgd s x 40 ho base 3 i0 (.int .i64 0) 1 8 Tryd.underlying40 hi hz0 hz1 hz2 rfl (by decide) v xs.length (xs.map intV) hs hown ⟨g, 0, none⟩ 1 c [intV n] hx rfl ?_ ?_ ?_ ?_ hbase ?_
  · intro j u hu
    match j with
    | 0 => simp at hu; subst hu; exact hcell
    | j + 1 => simp at hu
  · intro u hu; simp at hu; subst hu; rfl
  · unfold maxLen; omega
  · omega
  · intro v' w' h1 h2 _
    refine h v' w' ?_ ((Fr.refl _ _).grown h2 fun k hk _ => (World.ownsRow.lt hown k hk).1)
    unfold OwnsI
    simpa using h1
theorem OwnsI.shape {w : World} {base : Nat} {v : Value} {xs : List Nat} (h : OwnsI w base v xs) : ∃ a c, v = .slice a xs.length c ∧ (∀ i (hi : i < xs.length), ∃ g, a = some ⟨g, 0, none⟩ ∧ g < w.heap.size ∧ w.cell? ⟨g, i, none⟩ = some (.int .i64 xs[i])) := by
  have hh := h
  unfold OwnsI at hh
  rcases hh.2 with ⟨hv, hn⟩ | ⟨g, cap, cur, hv, hb, hg, hc, hm, hs, ht⟩
  · exact ⟨none, 0, by rw [hv, hn], fun i hi => by omega⟩
  · refine ⟨some ⟨g, 0, none⟩, cap, hv, fun i hi => ⟨g, rfl, lt_of_block hg, ?_⟩⟩
    have h1 := World.ownsRow.cellAt (hv ▸ hh) i (by omega)
    rw [h1, List.getElem?_map, List.getElem?_eq_getElem hi]
    rfl
theorem toks_one {w : World} {g : Nat} {t : PT} (h : w.heap[g]? = some (.cells #[.int .i64 t.kind, .int .i64 t.place, .string ⟨t.text.toArray⟩, .int .u64 t.num] 35 (0, 0))) : Toks w (some ⟨g, 0, none⟩) [t] := by
  refine .inr ⟨g, 0, rfl, lt_of_block h, ?_⟩
  intro j hj i x hx
  have hj0 : j = 0 := by simp at hj; omega
  subst hj0
  have e : w.cell? ⟨g, 0 + 0 * 4 + i, none⟩ = (#[Value.int .i64 t.kind, .int .i64 t.place, .string ⟨t.text.toArray⟩, .int .u64 t.num] : Array Value)[i]? := by
    unfold World.cell?; rw [h]; simp
  rw [e, ← hx]
  simp [ptCells]
theorem print_one {t : PT} {s : Bytes} (h : print14 [t] = (s, 0)) : mayBe t = true ∧ s = told t := by
  obtain ⟨h1, _, h3⟩ := print14_ok h
  exact ⟨h1 t (List.mem_cons_self ..), by rw [h3]; simp [tellR]⟩
end Go.Proofs.YtinodapgldbljaaDoor
