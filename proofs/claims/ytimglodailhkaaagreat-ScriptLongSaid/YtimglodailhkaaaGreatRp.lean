/-
  Pure facts of the candidate that Read gathers: its connection, its bytes, its numbers, its size.
-/
import Derived.Test.YtimglodailhkaaaGreatRb
namespace Go.Proofs.YtimglodailhkaaaGreat
open Go Go.RowKit
/-- What a call owns stands where it points. -/
theorem owns_cells {W : World} {base n size : Nat} {T : TypeId} {v : Value} {xs : List Value} (h : W.ownsRow base T size v n xs) (hx : xs.length = n * size) : ∃ a c, v = .slice a n c ∧ CellsAt W a xs := by
  have h0 := h
  rcases h.2 with ⟨rfl, hn⟩ | ⟨g, cap, cur, rfl, hb, hg, hc, hm, hs, ht⟩
  · subst hn
    exact ⟨none, 0, rfl, .inl (List.eq_nil_of_length_eq_zero (by omega))⟩
  · refine ⟨_, cap, rfl, .inr ⟨g, 0, rfl, lt_of_block hg, fun j v hj => ?_⟩⟩
    have hj' : j < xs.length := (List.getElem?_eq_some_iff.1 hj).1
    have h1 := World.ownsRow.cellAt h0 j (by omega)
    rw [Nat.zero_add, h1]
    exact hj
theorem fateCs_len (l : List (Int × Int)) : (fateCs l).length = l.length * 2 := by
  unfold fateCs
  induction l with
  | nil => rfl
  | cons f l ih => rw [List.flatMap_cons, List.length_append, ih]; simp only [List.length_cons, List.length_nil]; omega
theorem RD.ev {w : World} {B g cap : Nat} {ws : List Bytes} {k cn : Int} {vb : Value} {bs : Bytes} {vf : Value} {fs : List (Int × Int)} {vp : Value} {ps : List Int} {W : World} (h : RD w B g cap ws k cn vb bs vf fs vp ps W) : EvAt W (.agg #[.int .i64 k, .int .i64 cn, vb, vf, vp]) ⟨k, cn, bs, fs, ps⟩ := by
  obtain ⟨a1, c1, e1, x1⟩ := owns_cells h.ob (by unfold byteCs; simp)
  obtain ⟨a2, c2, e2, x2⟩ := owns_cells h.of (fateCs_len fs)
  obtain ⟨a3, c3, e3, x3⟩ := owns_cells h.op (by unfold intCs; simp)
  exact ⟨a1, c1, a2, c2, a3, c3, by rw [e1, e2, e3], x1, x2, x3⟩
/-- The result's cells. -/
theorem res_cells {W : World} {b : Nat} {v0 v1 v2 v3 v4 : Value} (h : W.heap[b]? = some (.cells #[v0, v1, v2, v3, v4] 28 (0, 0))) :
    (W.cell? ⟨b, 0, none⟩ = some v0 ∧ W.cell? ⟨b, 1, none⟩ = some v1 ∧ W.cell? ⟨b, 2, none⟩ = some v2 ∧ W.cell? ⟨b, 3, none⟩ = some v3 ∧ W.cell? ⟨b, 4, none⟩ = some v4) ∧
    (W.frozen? ⟨b, 0, none⟩ = false ∧ W.frozen? ⟨b, 1, none⟩ = false ∧ W.frozen? ⟨b, 2, none⟩ = false ∧ W.frozen? ⟨b, 3, none⟩ = false ∧ W.frozen? ⟨b, 4, none⟩ = false) :=
  ⟨(cells5 h).1, ⟨by simp [World.frozen?, h], by simp [World.frozen?, h], by simp [World.frozen?, h], by simp [World.frozen?, h], by simp [World.frozen?, h]⟩⟩
/-- The result stored. -/
theorem res_fin {w W : World} {b : Nat} {v0 v1 v2 v3 v4 : Value} (hf : Fr No w W) (hb : w.heap.size ≤ b) (h : W.heap[b]? = some (.cells #[v0, v1, v2, v3, v4] 28 (0, 0))) (y0 y1 y2 y3 y4 : Value) :
    (((((W.setCell ⟨b, 0, none⟩ y0).setCell ⟨b, 1, none⟩ y1).setCell ⟨b, 2, none⟩ y2).setCell ⟨b, 3, none⟩ y3).setCell ⟨b, 4, none⟩ y4).heap[b]? = some (.cells #[y0, y1, y2, y3, y4] 28 (0, 0)) ∧
    Fr No w (((((W.setCell ⟨b, 0, none⟩ y0).setCell ⟨b, 1, none⟩ y1).setCell ⟨b, 2, none⟩ y2).setCell ⟨b, 3, none⟩ y3).setCell ⟨b, 4, none⟩ y4) := by
  have no : b < w.heap.size → No b := fun hlt => absurd hlt (by omega)
  refine ⟨?_, ((((hf.setCell _ _ no).setCell _ _ no).setCell _ _ no).setCell _ _ no).setCell _ _ no⟩
  have h0 := heap_setCell_same W b 0 _ _ y0 h
  have h1 := heap_setCell_same _ b 1 _ _ y1 h0
  have h2 := heap_setCell_same _ b 2 _ _ y2 h1
  have h3 := heap_setCell_same _ b 3 _ _ y3 h2
  exact heap_setCell_same _ b 4 _ _ y4 h3
theorem res_kt {T : TypeId} {W : World} {b : Nat} {v0 v1 v2 v3 v4 : Value} (h : W.heap[b]? = some (.cells #[v0, v1, v2, v3, v4] 28 (0, 0))) (hT : 28 ≠ T) (y0 y1 y2 y3 y4 : Value) :
    Kt T W (((((W.setCell ⟨b, 0, none⟩ y0).setCell ⟨b, 1, none⟩ y1).setCell ⟨b, 2, none⟩ y2).setCell ⟨b, 3, none⟩ y3).setCell ⟨b, 4, none⟩ y4) := by
  have h0 := heap_setCell_same W b 0 _ _ y0 h
  have h1 := heap_setCell_same _ b 1 _ _ y1 h0
  have h2 := heap_setCell_same _ b 2 _ _ y2 h1
  have h3 := heap_setCell_same _ b 3 _ _ y3 h2
  exact ((((Kt.set (p := ⟨b, 0, none⟩) h hT y0).trans (Kt.set (p := ⟨b, 1, none⟩) h0 hT y1)).trans (Kt.set (p := ⟨b, 2, none⟩) h1 hT y2)).trans (Kt.set (p := ⟨b, 3, none⟩) h2 hT y3)).trans (Kt.set (p := ⟨b, 4, none⟩) h3 hT y4)
/-- What Read answers. -/
def ReadPost (w : World) (s : Bytes) (e : Ending) (w' : World) : Prop :=
  ∃ v, e = .returned (.tuple #[v, .int .i64 (if (read31 s).isSome then 0 else 411)]) ∧ EvAt w' v ((read31 s).getD Ev.none) ∧ Fr No w w'
theorem str_eq2 (X s : ByteArray) (x : Bytes) (hX : X = ⟨x.toArray⟩) : (X.toList == s.toList) = decide (x = s.data.toList) := by
  subst hX
  rw [Lib.toList_data, Lib.toList_data, Bool.eq_iff_iff, beq_iff_eq, decide_eq_true_iff]
theorem infoByte : (Tryz.prog.info? 5).map (fun i => (i.zero, i.size, i.bytes)) = some (some (.int .u8 0), 1, 1) := by kernel_rfl
theorem numLoop_range : ∀ (l : Bytes) (n m : Int), -9223372036854775808 ≤ n → n ≤ 0 → numLoop l n = some m → -9223372036854775808 ≤ m ∧ m ≤ 0
  | [], n, m, h1, h2, h => by cases h; exact ⟨h1, h2⟩
  | c :: l, n, m, h1, h2, h => by
      rw [numLoop] at h
      split at h
      · cases h
      · rename_i hne
        have hd := dig31_range c
        obtain ⟨d, hdd⟩ : ∃ d, dig31 c = d := ⟨_, rfl⟩
        rw [hdd] at hd hne h
        have hq : -9223372036854775808 + d ≤ 10 * Int.tdiv (-9223372036854775808 + d) 10 := by
          rw [show -9223372036854775808 + d = -(9223372036854775808 - d) by omega, Int.neg_tdiv, Int.tdiv_eq_ediv_of_nonneg (by omega)]
          omega
        exact numLoop_range l _ m (by omega) (by omega) h
theorem numTail_range (neg : Bool) (s : Bytes) : i64 (numTail neg s) := by
  unfold numTail
  split
  · exact ⟨by decide, by decide⟩
  · cases h : numLoop s 0 with
    | none => show i64 0; exact ⟨by decide, by decide⟩
    | some n =>
        have hr := numLoop_range s 0 n (by decide) (by decide) h
        show i64 (if neg = true then n else if n = -9223372036854775808 then n else -n)
        split
        · exact ⟨by omega, by omega⟩
        · split <;> exact ⟨by omega, by omega⟩
theorem number_range (s : Bytes) : i64 (number31 s) := by unfold number31; split <;> exact numTail_range _ _
theorem fatesOf_range : ∀ (l : List Bytes), (fatesOf l).length ≤ l.length ∧ ∀ f ∈ fatesOf l, i64 f.2
  | [] => ⟨Nat.le_refl _, fun _ h => by cases h⟩
  | x :: l => by
      have ih := fatesOf_range l
      by_cases hg : x = goodW
      · rw [hg, fatesOf_good]
        refine ⟨by simp only [List.length_cons]; omega, fun f hf => ?_⟩
        rcases List.mem_cons.1 hf with rfl | hf
        · exact ⟨by decide, by decide⟩
        · exact ih.2 f hf
      · by_cases hf : x = failW
        · match l, ih with
          | [], _ => rw [hf, fatesOf_last]; exact ⟨by simp, fun _ h => by cases h⟩
          | y :: l, ih =>
              rw [hf, fatesOf_fail]
              refine ⟨by have := ih.1; simp only [List.length_cons] at this ⊢; omega, fun f hf => ?_⟩
              rcases List.mem_cons.1 hf with rfl | hf
              · exact number_range y
              · exact ih.2 f hf
        · rw [fatesOf_other x l hg hf]
          exact ⟨by simp only [List.length_cons]; omega, ih.2⟩
theorem cand_nums (ws : List Bytes) : (cand31 ws).nums := by
  refine ⟨?_, ?_, ?_⟩
  · show i64 (if kindOf (ws.headD []) = 2 ∨ kindOf (ws.headD []) = 3 then (match ws.tail with | [] => 0 | y :: _ => number31 y) else 0)
    split
    · split
      · exact ⟨by decide, by decide⟩
      · exact number_range _
    · exact ⟨by decide, by decide⟩
  · show ∀ f ∈ (if kindOf (ws.headD []) = 4 then fatesOf ws.tail else []), i64 f.2
    split
    · exact (fatesOf_range _).2
    · intro f hf; cases hf
  · show ∀ n ∈ (if kindOf (ws.headD []) = 5 then ws.tail.map number31 else []), i64 n
    split
    · intro n hn
      obtain ⟨x, _, rfl⟩ := List.mem_map.1 hn
      exact number_range x
    · intro f hf; cases hf
theorem bytesOf_le : ∀ (y : Bytes), (bytesOf y).length ≤ y.length
  | [] => Nat.le_refl _
  | [_] => Nat.zero_le _
  | a :: b :: l => by
      have := bytesOf_le l
      show (bytesOf l).length + 1 ≤ l.length + 1 + 1
      omega
end Go.Proofs.YtimglodailhkaaaGreat
