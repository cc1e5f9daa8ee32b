/-
  What ScriptLong makes: rows of 65537 events 'connect', events of a mebibyte, eight of these.
-/
import Derived.Deep.LoopGhost
import Derived.Deep.DeepMust
import Derived.Test.YtimglodailhkaaaGreatZq
namespace Go.Proofs.YtimglodailhkaaaGreat
open Go Go.RowKit
theorem parse_zeros (M : Nat) : ∀ n, Lib.parseUintM M 0 (List.replicate n 48) = .ok 0
  | 0 => rfl
  | n + 1 => by
    rw [List.replicate_succ, Lib.parseUintM, if_pos (by decide), if_neg (by decide), if_neg (by simp)]
    exact parse_zeros M n
theorem int_zeros (n : Nat) (h : 0 < n) : Lib.parseIntB 64 (List.replicate n 48) = .ok 0 := by
  obtain ⟨k, rfl⟩ : ∃ k, n = k + 1 := ⟨n - 1, by omega⟩
  have hp := parse_zeros (2 ^ 64 - 1) (k + 1)
  rw [List.replicate_succ] at hp ⊢
  unfold Lib.parseIntB
  dsimp only
  rw [if_neg (by decide)]
  unfold Lib.parseUintB
  rw [if_neg (by simp), hp]
  dsimp only
  rw [if_neg (by decide), if_neg (by decide), if_neg (by decide)]
  rfl
theorem asks_zeros (B : Prop) (n : Nat) (h : 0 < n) : Asks False B (List.replicate n 48) :=
  ⟨fun v hv hs => by rw [int_zeros n h] at hv; cases hv; exact hs ⟨by decide, by decide⟩, fun hb => absurd (int_zeros n h) (hb 0)⟩
theorem big_asks (n : Nat) (h : 0 < n) : ReadAsks False False (line31 (bigE n)) := by
  intro hd t ht x hx
  rw [big_words n h] at ht
  cases ht
  rcases List.mem_cons.1 hx with rfl | hx
  · exact asks_zeros _ 1 (by decide)
  · rcases List.mem_cons.1 hx with rfl | hx
    · exact asks_zeros _ (2 * n) (by omega)
    · cases hx
/-- Read of the greatest line. -/
theorem read_big (n : Nat) (h0 : 0 < n) (h1 : n ≤ 1048576) (s : ByteArray) (hs : s = strB (line31 (bigE n))) (m : Int) (w : World) (hm : w.cell? ⟨0, 0, none⟩ = some (.int .i64 m)) :
    Calls Tryz.prog 7 #[.string s] w fun e w' => ∃ a1 c1 a2 c2 a3 c3, e = .returned (.tuple #[.agg #[.int .i64 2, .int .i64 0, .slice a1 n c1, .slice a2 0 c2, .slice a3 0 c3], .int .i64 0]) ∧ Fr No w w' := by
  have hl : s.data.toList = line31 (bigE n) := by rw [hs]; exact strB_list _
  have hz : s.size ≤ 16777216 := by rw [hs, strB_size, big_len n h0]; omega
  refine (sread_any (TT := False) (BB := False) w ⟨fun h => h.elim, fun h => h.elim, fun h => h.elim⟩ m hm s hz (by rw [hl]; exact big_asks n h0)).mono ?_
  rintro e w' ⟨v, h1', h2, h3⟩
  rw [hl, big_read n h1] at h1' h2
  obtain ⟨a1, c1, a2, c2, a3, c3, rfl, _⟩ := h2.form
  have e1 : (bigE n).bytes.length = n := by unfold bigE; simp
  simp only [Option.getD_some, e1] at h1'
  exact ⟨a1, c1, a2, c2, a3, c3, h1', h3⟩
theorem small_zero : smallN 0 := ⟨by decide, by decide⟩
theorem big_tab (n : Nat) (w : World) : TabE (bigE n) w := ⟨fun h => absurd small_zero h, (fun f (hf : f ∈ ([] : List (Int × Int))) => by cases hf), (fun k (hk : k ∈ ([] : List Int)) => by cases hk)⟩
theorem conn_tab (w : World) : TabE connE w := ⟨fun h => absurd small_zero h, (fun f (hf : f ∈ ([] : List (Int × Int))) => by cases hf), (fun k (hk : k ∈ ([] : List Int)) => by cases hk)⟩
theorem conn_nums : connE.nums := ⟨(⟨by decide, by decide⟩ : i64 0), (fun f (hf : f ∈ ([] : List (Int × Int))) => by cases hf), (fun k (hk : k ∈ ([] : List Int)) => by cases hk)⟩
theorem big_small (n : Nat) (h : n ≤ 1000000000000) : (bigE n).small := ⟨by unfold bigE; simpa using h, Nat.zero_le _, Nat.zero_le _⟩
/-- n bytes 0 in a block. -/
def Zeros (w : World) (B n : Nat) : Prop := ∃ C : Array Value, w.heap[B]? = some (.cells C 5 (0, 0)) ∧ ∀ j, j < n → C[j]? = some (.int .u8 0)
theorem Zeros.fr {w w' : World} {B n : Nat} (h : Zeros w B n) (hf : Fr No w w') : Zeros w' B n := by
  obtain ⟨C, h1, h2⟩ := h
  exact ⟨C, hf.at h1 (fun h => h), h2⟩
theorem Zeros.cells {w : World} {B n : Nat} (h : Zeros w B n) : CellsAt w (some ⟨B, 0, none⟩) (byteCs (List.replicate n 0)) := by
  obtain ⟨C, h1, h2⟩ := h
  refine .inr ⟨B, 0, rfl, lt_of_block h1, fun j v hj => ?_⟩
  have hj' : j < n := by
    have := (List.getElem?_eq_some_iff.1 hj).1
    simpa [byteCs] using this
  have hv : v = .int .u8 0 := by
    rw [byteCs, List.map_replicate, List.getElem?_replicate, if_pos hj'] at hj
    exact (Option.some.inj hj).symm
  rw [cell_of_row w B (0 + j) C _ (0, 0) h1, Nat.zero_add, h2 j hj', hv]
theorem Zeros.ev {w : World} {B n : Nat} (h : Zeros w B n) : EvAt w (.agg #[.int .i64 2, .int .i64 0, .slice (some ⟨B, 0, none⟩) n n, .slice none 0 0, .slice none 0 0]) (bigE n) := by
  refine ⟨some ⟨B, 0, none⟩, n, none, 0, none, 0, ?_, h.cells, .inl rfl, .inl rfl⟩
  have e1 : (bigE n).bytes.length = n := by unfold bigE; simp
  rw [e1]
  rfl
theorem make_bytes (n : Nat) (hn : n ≤ 140737488355328) : ∃ Z : Array Value, (∀ j, j < n → Z[j]? = some (.int .u8 0)) ∧ ∀ w : World, (Instr.makeSlice 24 (.int .i64 n) (.int .i64 n)).run Tryz.prog w = .ok (.slice (some ⟨w.heap.size, 0, none⟩) n n) (w.alloc (.cells Z 5)) := by
  obtain ⟨i0, hi, hz0, hz1, hz2⟩ := info_parts infoU8
  refine ⟨madeCells #[.int .u8 0] (n * i0.size), fun j hj => ?_, fun w => run_make w 24 5 i0 (.int .u8 0) Tryz.underlying24 hi hz0 .i64 .i64 n n (by omega) (by omega) (by rw [hz2]; omega) (by omega)⟩
  rw [← Array.getElem?_toList, toList_madeCells_one, hz1, Nat.mul_one, List.getElem?_replicate, if_pos hj]
theorem make_evs : ∃ Z : Array Value, Z.size = 327685 ∧ ∀ w : World, (Instr.makeSlice 22 (.int .i64 65537) (.int .i64 65537)).run Tryz.prog w = .ok (.slice (some ⟨w.heap.size, 0, none⟩) 65537 65537) (w.alloc (.cells Z 28)) := by
  obtain ⟨i0, hi, hz0, hz1, hz2⟩ := info_parts infoEvZ
  exact ⟨_, size_madeCells _ _, fun wx => by
    rw [run_make wx 22 28 i0 _ Tryz.underlying22 hi hz0 .i64 .i64 65537 65537 (by omega) (by omega) (by rw [hz2]; decide) (by omega), hz1]; rfl⟩
/-- A block of 65537 events, of which the first are 'connect' already. -/
def Conns (w : World) (B i : Nat) : Prop := ∃ C : Array Value, w.heap[B]? = some (.cells C 28 (0, 0)) ∧ C.size = 327685 ∧
  ∀ j, j < i → C[j * 5]? = some (.int .i64 1) ∧ C[j * 5 + 1]? = some (.int .i64 0) ∧ C[j * 5 + 2]? = some (.slice none 0 0) ∧ C[j * 5 + 3]? = some (.slice none 0 0) ∧ C[j * 5 + 4]? = some (.slice none 0 0)
theorem Conns.fr {w w' : World} {B i : Nat} (h : Conns w B i) (hf : Fr No w w') : Conns w' B i := by
  obtain ⟨C, h1, h2⟩ := h
  exact ⟨C, hf.at h1 (fun h => h), h2⟩
theorem Conns.cell {w : World} {B i : Nat} (h : Conns w B i) (j : Nat) (hj : j < 327685) : (∃ u, w.cell? ⟨B, j, none⟩ = some u) ∧ w.frozen? ⟨B, j, none⟩ = false ∧ B < w.heap.size := by
  obtain ⟨C, h1, h2, h3⟩ := h
  exact ⟨⟨C[j], by simp [World.cell?, h1, h2, hj]⟩, by simp [World.frozen?, h1], lt_of_block h1⟩
theorem Conns.step {w : World} {B i : Nat} (h : Conns w B i) (hi : i < 65537) :
    Conns (((((w.setCell ⟨B, i * 5, none⟩ (.int .i64 1)).setCell ⟨B, i * 5 + 1, none⟩ (.int .i64 0)).setCell ⟨B, i * 5 + 2, none⟩ (.slice none 0 0)).setCell ⟨B, i * 5 + 3, none⟩ (.slice none 0 0)).setCell ⟨B, i * 5 + 4, none⟩ (.slice none 0 0)) B (i + 1) := by
  obtain ⟨C, h1, h2, h3⟩ := h
  have q1 := heap_setCell_same w B (i * 5) _ _ (.int .i64 1) h1
  have q2 := heap_setCell_same _ B (i * 5 + 1) _ _ (.int .i64 0) q1
  have q3 := heap_setCell_same _ B (i * 5 + 2) _ _ (.slice none 0 0) q2
  have q4 := heap_setCell_same _ B (i * 5 + 3) _ _ (.slice none 0 0) q3
  have q5 := heap_setCell_same _ B (i * 5 + 4) _ _ (.slice none 0 0) q4
  refine ⟨_, q5, by simp [h2], fun j hj => ?_⟩
  by_cases e : j = i
  · subst e
    simp [Array.getElem?_setIfInBounds, h2]
    omega
  · have h4 := h3 j (by omega)
    have a : ∀ k, k < 5 → ∀ r, r < 5 → i * 5 + k ≠ j * 5 + r := fun k hk r hr => by omega
    simp only [Array.getElem?_setIfInBounds]
    have n0 := a 0 (by omega); have n1 := a 1 (by omega); have n2 := a 2 (by omega); have n3 := a 3 (by omega); have n4 := a 4 (by omega)
    simp only [Nat.add_zero] at n0
    refine ⟨?_, ?_, ?_, ?_, ?_⟩
    · have r0 := n0 0 (by omega); have r1 := n1 0 (by omega); have r2 := n2 0 (by omega); have r3 := n3 0 (by omega); have r4 := n4 0 (by omega)
      simp only [Nat.add_zero] at r0 r1 r2 r3 r4
      rw [if_neg r4, if_neg r3, if_neg r2, if_neg r1, if_neg r0]; exact h4.1
    · rw [if_neg (n4 1 (by omega)), if_neg (n3 1 (by omega)), if_neg (n2 1 (by omega)), if_neg (n1 1 (by omega)), if_neg (n0 1 (by omega))]; exact h4.2.1
    · rw [if_neg (n4 2 (by omega)), if_neg (n3 2 (by omega)), if_neg (n2 2 (by omega)), if_neg (n1 2 (by omega)), if_neg (n0 2 (by omega))]; exact h4.2.2.1
    · rw [if_neg (n4 3 (by omega)), if_neg (n3 3 (by omega)), if_neg (n2 3 (by omega)), if_neg (n1 3 (by omega)), if_neg (n0 3 (by omega))]; exact h4.2.2.2.1
    · rw [if_neg (n4 4 (by omega)), if_neg (n3 4 (by omega)), if_neg (n2 4 (by omega)), if_neg (n1 4 (by omega)), if_neg (n0 4 (by omega))]; exact h4.2.2.2.2
theorem Conns.evs {w : World} {B i : Nat} (h : Conns w B i) (k : Nat) (hk : k ≤ i) : EvsAt w (some ⟨B, 0, none⟩) (List.replicate k connE) := by
  obtain ⟨C, h1, h2, h3⟩ := h
  refine .inr ⟨B, 0, rfl, lt_of_block h1, fun j hj => ?_⟩
  rw [List.length_replicate] at hj
  rw [List.getElem_replicate]
  have c : ∀ n, w.cell? ⟨B, n, none⟩ = C[n]? := fun n => by simp [World.cell?, h1]
  obtain ⟨q0, q1, q2, q3, q4⟩ := h3 j (by omega)
  refine ⟨none, 0, none, 0, none, 0, ⟨?_, ?_, ?_, ?_, ?_⟩, .inl rfl, .inl rfl, .inl rfl⟩
  all_goals rw [c, Nat.zero_add]
  · exact q0
  · exact q1
  · exact q2
  · exact q3
  · exact q4
/-- The cells of eight of one event. -/
def eight (n : Nat) (B : Nat) : List Value := (List.replicate 8 [Value.int .i64 2, .int .i64 0, .slice (some ⟨B, 0, none⟩) n n, .slice none 0 0, .slice none 0 0]).flatten
theorem eight_evs {w : World} {B n X : Nat} (h : Zeros w B n) (hX : w.heap[X]? = some (.cells (eight n B).toArray 28 (0, 0))) : EvsAt w (some ⟨X, 0, none⟩) (List.replicate 8 (bigE n)) := by
  refine .inr ⟨X, 0, rfl, lt_of_block hX, fun j hj => ?_⟩
  rw [List.length_replicate] at hj
  rw [List.getElem_replicate]
  have c : ∀ k, w.cell? ⟨X, k, none⟩ = (eight n B)[k]? := fun k => by simp [World.cell?, hX]
  have e1 : (bigE n).bytes.length = n := by unfold bigE; simp
  refine ⟨some ⟨B, 0, none⟩, n, none, 0, none, 0, ⟨?_, ?_, ?_, ?_, ?_⟩, h.cells, .inl rfl, .inl rfl⟩
  all_goals rw [c, Nat.zero_add]
  all_goals try rw [e1]
  all_goals (rcases (by omega : j = 0 ∨ j = 1 ∨ j = 2 ∨ j = 3 ∨ j = 4 ∨ j = 5 ∨ j = 6 ∨ j = 7) with rfl | rfl | rfl | rfl | rfl | rfl | rfl | rfl) <;> rfl
end Go.Proofs.YtimglodailhkaaaGreat
