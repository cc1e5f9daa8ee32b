/-
  ScriptLines: facts for its walk.
-/
import Derived.Test.YtjidpccgjiogbaaGreatDoorWk
import Derived.Test.YtjidpccgjiogbaaGreatDoorCp
import Derived.Test.YtjidpccgjiogbaaGreatDoorRp
namespace Go.Proofs.YtjidpccgjiogbaaGreatDoor
open Go Go.RowKit
theorem read31_facts {s : Bytes} {e : Ev} (h : read31 s = some e) : may31 e = true ∧ line31 e = s ∧ e.nums := by
  unfold read31 at h
  split at h
  · rename_i h1
    cases h
    exact ⟨h1.1, h1.2, cand_nums _⟩
  · cases h
theorem may_small {e : Ev} (h : may31 e = true) : e.small := by
  unfold may31 at h
  simp only [Bool.and_eq_true, decide_eq_true_eq] at h
  obtain ⟨⟨⟨⟨⟨⟨⟨⟨⟨_, _⟩, h3⟩, h4⟩, h5⟩, _⟩, _⟩, _⟩, _⟩, _⟩ := h
  exact ⟨by omega, by omega, by omega⟩
theorem read31_small (s : Bytes) : ((read31 s).getD Ev.none).small := by
  cases h : read31 s with
  | none => exact small_none
  | some e => exact may_small (read31_facts h).1
theorem short_small {e : Ev} (h : isLong e = false) : e.bytes.length ≤ 20000 ∧ e.fates.length ≤ 500 ∧ e.picks.length ≤ 500 := by
  unfold isLong at h
  simp only [Bool.or_eq_false_iff, decide_eq_false_iff_not] at h
  omega
/-- Two events side by side. -/
theorem long_two {W : World} {a b : Ev} {a1 a2 a3 b1 b2 b3 : Option Addr} {c1 c2 c3 d1 d2 d3 : Nat}
    (ha : EvAt W (.agg #[.int .i64 a.kind, .int .i64 a.conn, .slice a1 a.bytes.length c1, .slice a2 a.fates.length c2, .slice a3 a.picks.length c3]) a)
    (hb : EvAt W (.agg #[.int .i64 b.kind, .int .i64 b.conn, .slice b1 b.bytes.length d1, .slice b2 b.fates.length d2, .slice b3 b.picks.length d3]) b)
    (WL : World) (hWL : WL = W.alloc (.cells #[.int .i64 a.kind, .int .i64 a.conn, .slice a1 a.bytes.length c1, .slice a2 a.fates.length c2, .slice a3 a.picks.length c3, .int .i64 b.kind, .int .i64 b.conn, .slice b1 b.bytes.length d1, .slice b2 b.fates.length d2, .slice b3 b.picks.length d3] 27)) :
    Calls Tryz.prog 6 #[.slice (some ⟨W.heap.size, 0, none⟩) 2 2] WL fun e w' => e = .returned (.bool (isLong a || isLong b)) ∧ WL = w' := by
  have hB : WL.heap[W.heap.size]? = some (.cells #[.int .i64 a.kind, .int .i64 a.conn, .slice a1 a.bytes.length c1, .slice a2 a.fates.length c2, .slice a3 a.picks.length c3, .int .i64 b.kind, .int .i64 b.conn, .slice b1 b.bytes.length d1, .slice b2 b.fates.length d2, .slice b3 b.picks.length d3] 27 (0, 0)) := by rw [hWL]; exact heap_alloc_new W _
  have hf : Fr No W WL := by rw [hWL]; exact (Fr.refl _ _).alloc _
  have cell : ∀ (j : Nat) (x : Value), #[.int .i64 a.kind, .int .i64 a.conn, .slice a1 a.bytes.length c1, .slice a2 a.fates.length c2, .slice a3 a.picks.length c3, .int .i64 b.kind, .int .i64 b.conn, .slice b1 b.bytes.length d1, .slice b2 b.fates.length d2, .slice b3 b.picks.length d3][j]? = some x → WL.cell? ⟨W.heap.size, j, none⟩ = some x := fun j x hj => (cell_of_row WL W.heap.size j _ _ _ hB).trans hj
  obtain ⟨x1, y1, x2, y2, x3, y3, ea, r1, r2, r3⟩ := (ha.no hf).form
  obtain ⟨p1, q1, p2, q2, p3, q3, eb, s1, s2, s3⟩ := (hb.no hf).form
  simp only [Value.agg.injEq, Array.mk.injEq, List.cons.injEq, Value.slice.injEq, true_and, and_true] at ea eb
  obtain ⟨⟨rfl, rfl⟩, ⟨rfl, rfl⟩, rfl, rfl⟩ := ea
  obtain ⟨⟨rfl, rfl⟩, ⟨rfl, rfl⟩, rfl, rfl⟩ := eb
  have h := long_any (some ⟨W.heap.size, 0, none⟩) 2 [a, b] WL (.inr ⟨W.heap.size, 0, rfl, lt_of_block hB, fun i hi => by
    match i, hi with
    | 0, _ => exact ⟨_, _, _, _, _, _, ⟨cell 0 _ rfl, cell 1 _ rfl, cell 2 _ rfl, cell 3 _ rfl, cell 4 _ rfl⟩, r1, r2, r3⟩
    | 1, _ => exact ⟨_, _, _, _, _, _, ⟨cell 5 _ rfl, cell 6 _ rfl, cell 7 _ rfl, cell 8 _ rfl, cell 9 _ rfl⟩, s1, s2, s3⟩⟩) (by simp)
  refine h.mono ?_
  rintro e w' ⟨h1, h2⟩
  exact ⟨by rw [h1]; simp, h2⟩
theorem long_two' {W : World} {a b : Ev} {a1 a2 a3 b1 b2 b3 : Option Addr} {c1 c2 c3 d1 d2 d3 n1 n2 n3 m1 m2 m3 : Nat} {k cn k' cn' : Int}
    (ha : EvAt W (.agg #[.int .i64 k, .int .i64 cn, .slice a1 n1 c1, .slice a2 n2 c2, .slice a3 n3 c3]) a)
    (hb : EvAt W (.agg #[.int .i64 k', .int .i64 cn', .slice b1 m1 d1, .slice b2 m2 d2, .slice b3 m3 d3]) b)
    (WL : World) (hWL : WL = W.alloc (.cells #[.int .i64 k, .int .i64 cn, .slice a1 n1 c1, .slice a2 n2 c2, .slice a3 n3 c3, .int .i64 k', .int .i64 cn', .slice b1 m1 d1, .slice b2 m2 d2, .slice b3 m3 d3] 27)) :
    Calls Tryz.prog 6 #[.slice (some ⟨W.heap.size, 0, none⟩) 2 2] WL fun e w' => e = .returned (.bool (isLong a || isLong b)) ∧ WL = w' := by
  obtain ⟨x1, y1, x2, y2, x3, y3, ea, _⟩ := ha.form
  obtain ⟨p1, q1, p2, q2, p3, q3, eb, _⟩ := hb.form
  simp only [Value.agg.injEq, Array.mk.injEq, List.cons.injEq, Value.slice.injEq, Value.int.injEq, true_and, and_true] at ea eb
  obtain ⟨rfl, rfl, ⟨rfl, rfl, rfl⟩, ⟨rfl, rfl, rfl⟩, rfl, rfl, rfl⟩ := ea
  obtain ⟨rfl, rfl, ⟨rfl, rfl, rfl⟩, ⟨rfl, rfl, rfl⟩, rfl, rfl, rfl⟩ := eb
  exact long_two ha hb WL hWL
/-- An event's value, its numbers named. -/
theorem EvAt.named {w : World} {v : Value} {e : Ev} (h : EvAt w v e) : ∃ k cn a1 n1 c1 a2 n2 c2 a3 n3 c3, v = .agg #[.int .i64 k, .int .i64 cn, .slice a1 n1 c1, .slice a2 n2 c2, .slice a3 n3 c3] ∧ e.kind = k ∧ e.conn = cn ∧ e.bytes.length = n1 ∧ e.fates.length = n2 ∧ e.picks.length = n3 := by
  obtain ⟨a1, c1, a2, c2, a3, c3, rfl, _⟩ := h.form
  exact ⟨_, _, _, _, _, _, _, _, _, _, _, rfl, rfl, rfl, rfl, rfl, rfl⟩
theorem KeptAt.named {w : World} {v : Value} {e : Ev} (h : KeptAt w v e) : ∃ k cn a1 n1 c1 a2 n2 c2 a3 n3 c3, v = .agg #[.int .i64 k, .int .i64 cn, .slice a1 n1 c1, .slice a2 n2 c2, .slice a3 n3 c3] ∧ e.kind = k ∧ e.conn = cn ∧ e.bytes.length = n1 ∧ e.fates.length = n2 ∧ e.picks.length = n3 := h.at.named
end Go.Proofs.YtjidpccgjiogbaaGreatDoor
