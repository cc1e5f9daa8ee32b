/-
  Pure facts of the reader: the head, its number; the results of Read.
-/
import Derived.Test.YtimglodailhkaaaGreatRn
import Derived.Test.YtimglodailhkaaaGreatCt
import Derived.Test.YtimglodailhkaaaGreatTo
namespace Go.Proofs.YtimglodailhkaaaGreat
open Go Go.RowKit
theorem cut_head (h : Bytes) (t : List Bytes) (hp : Plain h) : (Lib.cut (h ++ restOf t) [32]).1 = h := by
  unfold Lib.cut
  rw [Lib.index_one, index_plain h t hp]
  by_cases ht : t = []
  · subst ht
    rw [if_pos rfl, if_neg (by decide), restOf_nil]
    simp
  · rw [if_neg ht, if_pos (by omega)]
    simp
def headsL : List ByteArray := [strB [], strB connectB, strB sendB, strB closeB, strB feedB, strB crashB]
theorem strB_inj {x y : Bytes} (h : strB x = strB y) : x = y := by
  have h2 : (strB x).data.toList = (strB y).data.toList := by rw [h]
  exact h2
theorem head_kind (h : Bytes) : (Lib.idxOfS headsL (strB h) = kindOf h ∧ 1 ≤ kindOf h ∧ kindOf h ≤ 5) ∨ (kindOf h = 0 ∧ Lib.idxOfS headsL (strB h) ≤ 0) := by
  rcases kindOf_cases h with ⟨h1, h2⟩ | ⟨h1, h2⟩ | ⟨h1, h2⟩ | ⟨h1, h2⟩ | ⟨h1, h2⟩ | h1
  · subst h2; exact .inl (by decide +kernel)
  · subst h2; exact .inl (by decide +kernel)
  · subst h2; exact .inl (by decide +kernel)
  · subst h2; exact .inl (by decide +kernel)
  · subst h2; exact .inl (by decide +kernel)
  · refine .inr ⟨h1, ?_⟩
    have n1 : h ≠ connectB := fun e => by subst e; revert h1; decide
    have n2 : h ≠ sendB := fun e => by subst e; revert h1; decide
    have n3 : h ≠ closeB := fun e => by subst e; revert h1; decide
    have n4 : h ≠ feedB := fun e => by subst e; revert h1; decide
    have n5 : h ≠ crashB := fun e => by subst e; revert h1; decide
    unfold Lib.idxOfS headsL
    simp only [Lib.idxFromS]
    split
    · decide
    rw [if_neg (fun e => n1 (strB_inj e).symm), if_neg (fun e => n2 (strB_inj e).symm), if_neg (fun e => n3 (strB_inj e).symm), if_neg (fun e => n4 (strB_inj e).symm), if_neg (fun e => n5 (strB_inj e).symm)]
    decide
theorem results_sread (tmps : Array Value) (w : World) (a b : Nat) (cs : Array Value) (y : Int) (h4 : tmps.getD 2 undef = .pointer (some ⟨a, 0, none⟩)) (h5 : tmps.getD 3 undef = .pointer (some ⟨b, 0, none⟩)) (ha : w.heap[a]? = some (.cells cs 28 (0, 0))) (hs : cs.size = 5) (hb : w.cell? ⟨b, 0, none⟩ = some (.int .i64 y)) :
    (results Tryz.f7 tmps).run Tryz.prog w = .ok (.tuple #[.agg cs, .int .i64 y]) w := by
  have h4' : tmps[2]?.getD undef = .pointer (some ⟨a, 0, none⟩) := by simpa using h4
  have h5' : tmps[3]?.getD undef = .pointer (some ⟨b, 0, none⟩) := by simpa using h5
  have hl := run_loadVar_row (P := Tryz.prog) w a 28 28 cs (0, 0) _ ha Tryz.underlying28 rfl (by rw [hs]; kernel_rfl)
  have hl2 : (loadVar 29 ⟨b, 0, none⟩).run Tryz.prog w = .ok (.int .i64 y) w := by simp [loadVar, go_sem, hb]
  simp [results, Tryz.results7, h4', h5', asAddr, hl, hl2]
theorem lread_small (k : Int) (t : List Bytes) (e : Ev) (l : List Bytes) (hlen : (restOf t).length ≤ 16777216) (h : lread k t = some (e, l)) : e.small := by
  have hge := rest_ge t
  unfold lread at h
  split at h
  · cases h; exact ⟨Nat.zero_le _, Nat.zero_le _, Nat.zero_le _⟩
  split at h
  · split at h
    · rename_i x y l2
      split at h
      · cases h
      · rename_i n hn
        obtain ⟨b, hb, hbe⟩ := Option.map_eq_some_iff.1 h
        cases hbe
        obtain ⟨_, h2, h3⟩ := hexWord_some hb
        rw [rest_len, rest_len] at hlen
        refine ⟨?_, Nat.zero_le _, Nat.zero_le _⟩
        show b.length ≤ _
        by_cases hy : y = [45]
        · rw [h2 hy]; exact Nat.zero_le _
        · rw [h3 hy]
          have := bytesOf_le y
          omega
    · cases h
  split at h
  · split at h
    · obtain ⟨b, hb, hbe⟩ := Option.map_eq_some_iff.1 h
      cases hbe; exact ⟨Nat.zero_le _, Nat.zero_le _, Nat.zero_le _⟩
    · cases h
  split at h
  · obtain ⟨fs, hb, hbe⟩ := Option.map_eq_some_iff.1 h
    cases hbe
    obtain ⟨_, h2, _⟩ := sfates_some _ t fs (Nat.le_refl _) hb
    refine ⟨Nat.zero_le _, ?_, Nat.zero_le _⟩
    show fs.length ≤ _
    have := (fatesOf_range t).1
    rw [h2] at this
    omega
  · obtain ⟨ps, hb, hbe⟩ := Option.map_eq_some_iff.1 h
    cases hbe
    obtain ⟨_, h2, _⟩ := spicks_some t ps hb
    refine ⟨Nat.zero_le _, Nat.zero_le _, ?_⟩
    show ps.length ≤ _
    rw [← h2, List.length_map]
    omega
theorem read_words {s h : Bytes} {t : List Bytes} (hw : words31 s = h :: t) : read31 s = match sbody (kindOf h) t with | none => none | some e => if may31 e = true then some e else none := by
  rw [← sread_read]; unfold sread; rw [hw]; rfl
theorem ES.at {w : World} {E r : Nat} {e : Ev} {vb vf vp : Value} {t : List Bytes} {W : World} (h : ES w E r e vb vf vp t W) : EvAt W (.agg #[.int .i64 e.kind, .int .i64 e.conn, vb, vf, vp]) e := by
  obtain ⟨a1, c1, e1, x1⟩ := owns_cells h.ob (by simp)
  obtain ⟨a2, c2, e2, x2⟩ := owns_cells h.of (fateCs_len e.fates)
  obtain ⟨a3, c3, e3, x3⟩ := owns_cells h.op (by unfold intCs; simp)
  exact ⟨a1, c1, a2, c2, a3, c3, by rw [e1, e2, e3], x1, x2, x3⟩
theorem ES.atK {w : World} {E r : Nat} {e : Ev} {vb vf vp : Value} {t : List Bytes} {W W' : World} (h : ES w E r e vb vf vp t W) (k1 : Kt 5 W W') (k2 : Kt 78 W W') (k3 : Kt 3 W W') : EvAt W' (.agg #[.int .i64 e.kind, .int .i64 e.conn, vb, vf, vp]) e := by
  obtain ⟨a1, c1, e1, x1⟩ := owns_cells (k1.owns h.ob) (by simp)
  obtain ⟨a2, c2, e2, x2⟩ := owns_cells (k2.owns h.of) (fateCs_len e.fates)
  obtain ⟨a3, c3, e3, x3⟩ := owns_cells (k3.owns h.op) (by unfold intCs; simp)
  exact ⟨a1, c1, a2, c2, a3, c3, by rw [e1, e2, e3], x1, x2, x3⟩
/-- The result stored, and the number. -/
theorem sread_fin {w W : World} {b : Nat} {v0 v1 v2 v3 v4 : Value} {y : Int} (hf : Fr No w W) (hb : w.heap.size ≤ b) (h : W.heap[b]? = some (.cells #[v0, v1, v2, v3, v4] 28 (0, 0))) (hn : W.heap[b + 1]? = some (.cells #[.int .i64 y] 29 (0, 0))) (y0 y1 y2 y3 y4 : Value) :
    ((((((W.setCell ⟨b, 0, none⟩ y0).setCell ⟨b, 1, none⟩ y1).setCell ⟨b, 2, none⟩ y2).setCell ⟨b, 3, none⟩ y3).setCell ⟨b, 4, none⟩ y4).setCell ⟨b + 1, 0, none⟩ (.int .i64 0)).heap[b]? = some (.cells #[y0, y1, y2, y3, y4] 28 (0, 0)) ∧
    ((((((W.setCell ⟨b, 0, none⟩ y0).setCell ⟨b, 1, none⟩ y1).setCell ⟨b, 2, none⟩ y2).setCell ⟨b, 3, none⟩ y3).setCell ⟨b, 4, none⟩ y4).setCell ⟨b + 1, 0, none⟩ (.int .i64 0)).cell? ⟨b + 1, 0, none⟩ = some (.int .i64 0) ∧
    Fr No w ((((((W.setCell ⟨b, 0, none⟩ y0).setCell ⟨b, 1, none⟩ y1).setCell ⟨b, 2, none⟩ y2).setCell ⟨b, 3, none⟩ y3).setCell ⟨b, 4, none⟩ y4).setCell ⟨b + 1, 0, none⟩ (.int .i64 0)) ∧
    ∀ T, 28 ≠ T → 29 ≠ T → Kt T W ((((((W.setCell ⟨b, 0, none⟩ y0).setCell ⟨b, 1, none⟩ y1).setCell ⟨b, 2, none⟩ y2).setCell ⟨b, 3, none⟩ y3).setCell ⟨b, 4, none⟩ y4).setCell ⟨b + 1, 0, none⟩ (.int .i64 0)) := by
  obtain ⟨h1, h2⟩ := res_fin hf hb h y0 y1 y2 y3 y4
  have hn5 : (((((W.setCell ⟨b, 0, none⟩ y0).setCell ⟨b, 1, none⟩ y1).setCell ⟨b, 2, none⟩ y2).setCell ⟨b, 3, none⟩ y3).setCell ⟨b, 4, none⟩ y4).heap[b + 1]? = some (.cells #[.int .i64 y] 29 (0, 0)) := by
    have g0 := (heap_setCell_other W ⟨b, 0, none⟩ (b + 1) y0 (by simp)).trans hn
    have g1 := (heap_setCell_other _ ⟨b, 1, none⟩ (b + 1) y1 (by simp)).trans g0
    have g2 := (heap_setCell_other _ ⟨b, 2, none⟩ (b + 1) y2 (by simp)).trans g1
    have g3 := (heap_setCell_other _ ⟨b, 3, none⟩ (b + 1) y3 (by simp)).trans g2
    exact (heap_setCell_other _ ⟨b, 4, none⟩ (b + 1) y4 (by simp)).trans g3
  refine ⟨(heap_setCell_other _ ⟨b + 1, 0, none⟩ b _ (by simp)).trans h1, cell_of_one (one_setCell hn5), h2.setCell _ _ (fun hlt => absurd hlt (by show ¬ b + 1 < w.heap.size; omega)), fun T hT hT2 => ?_⟩
  exact (res_kt h hT y0 y1 y2 y3 y4).trans (Kt.set (p := ⟨b + 1, 0, none⟩) hn5 hT2 _)
end Go.Proofs.YtimglodailhkaaaGreat
