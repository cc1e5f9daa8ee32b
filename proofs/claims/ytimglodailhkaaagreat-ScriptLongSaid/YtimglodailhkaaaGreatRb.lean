/-
  Facts for the walk of Read: its results, the cells of the event that it gathers, how fates are read from words.
-/
import Derived.Test.YtimglodailhkaaaGreatRw
namespace Go.Proofs.YtimglodailhkaaaGreat
open Go Go.RowKit
theorem RD.cells {w : World} {B g cap : Nat} {ws : List Bytes} {k cn : Int} {vb : Value} {bs : Bytes} {vf : Value} {fs : List (Int × Int)} {vp : Value} {ps : List Int} {W : World} (h : RD w B g cap ws k cn vb bs vf fs vp ps W) :
    (W.cell? ⟨B, 0, none⟩ = some (.int .i64 k) ∧ W.cell? ⟨B, 1, none⟩ = some (.int .i64 cn) ∧ W.cell? ⟨B, 2, none⟩ = some vb ∧ W.cell? ⟨B, 3, none⟩ = some vf ∧ W.cell? ⟨B, 4, none⟩ = some vp) ∧
    (W.frozen? ⟨B, 0, none⟩ = false ∧ W.frozen? ⟨B, 1, none⟩ = false ∧ W.frozen? ⟨B, 2, none⟩ = false ∧ W.frozen? ⟨B, 3, none⟩ = false ∧ W.frozen? ⟨B, 4, none⟩ = false) ∧ B < W.heap.size :=
  ⟨(cells5 h.blk).1, ⟨by simp [World.frozen?, h.blk], by simp [World.frozen?, h.blk], by simp [World.frozen?, h.blk], by simp [World.frozen?, h.blk], by simp [World.frozen?, h.blk]⟩, lt_of_block h.blk⟩
theorem str_eq (X : ByteArray) (x : Bytes) (C : Bytes) (hX : X = ⟨x.toArray⟩) : (X.toList == (⟨C.toArray⟩ : ByteArray).toList) = decide (x = C) ∧ (X.toList == C) = decide (x = C) := by
  subst hX
  constructor
  · rw [Lib.toList_data, Lib.toList_data, Bool.eq_iff_iff, beq_iff_eq, decide_eq_true_iff]
  · rw [Lib.toList_data, Bool.eq_iff_iff, beq_iff_eq, decide_eq_true_iff]
theorem infoFate : (Tryz.prog.info? 78).map (fun i => (i.zero, i.size, i.bytes)) = some (some (.agg #[.int .i64 0, .int .i64 0]), 2, 16) := by kernel_rfl
theorem infoInt : (Tryz.prog.info? 3).map (fun i => (i.zero, i.size, i.bytes)) = some (some (.int .i64 0), 1, 8) := by kernel_rfl
theorem news_two (w : World) (x y : Value) (t : TypeId) : ∀ j u, [x, y][j]? = some u → (w.alloc (.cells #[x, y] t)).cell? ((⟨w.heap.size, 0, none⟩ : Addr).add j) = some u := fun j u hu => by
  have hadd : (⟨w.heap.size, 0, none⟩ : Addr).add j = ⟨w.heap.size, j, none⟩ := by unfold Addr.add; split <;> simp_all
  rw [hadd]
  unfold World.cell?
  rw [heap_alloc_new]
  match j, hu with
  | 0, hu => exact hu
  | 1, hu => exact hu
  | j + 2, hu => simp at hu
theorem news_one (w : World) (x : Value) (t : TypeId) : ∀ j u, [x][j]? = some u → (w.alloc (.cells #[x] t)).cell? ((⟨w.heap.size, 0, none⟩ : Addr).add j) = some u := fun j u hu => by
  have hadd : (⟨w.heap.size, 0, none⟩ : Addr).add j = ⟨w.heap.size, j, none⟩ := by unfold Addr.add; split <;> simp_all
  rw [hadd]
  unfold World.cell?
  rw [heap_alloc_new]
  match j, hu with
  | 0, hu => exact hu
  | j + 1, hu => simp at hu
theorem cells_of_blk {w : World} {B : Nat} {v0 v1 v2 v3 v4 : Value} (h : w.heap[B]? = some (.cells #[v0, v1, v2, v3, v4] 28 (0, 0))) :
    (w.cell? ⟨B, 2, none⟩ = some v2 ∧ w.cell? ⟨B, 3, none⟩ = some v3 ∧ w.cell? ⟨B, 4, none⟩ = some v4) ∧ (w.frozen? ⟨B, 2, none⟩ = false ∧ w.frozen? ⟨B, 3, none⟩ = false ∧ w.frozen? ⟨B, 4, none⟩ = false) ∧ B < w.heap.size :=
  ⟨⟨by simp [World.cell?, h], by simp [World.cell?, h], by simp [World.cell?, h]⟩, ⟨by simp [World.frozen?, h], by simp [World.frozen?, h], by simp [World.frozen?, h]⟩, lt_of_block h⟩
theorem fatesOf_good (l : List Bytes) : fatesOf (goodW :: l) = (0, 0) :: fatesOf l := by
  show (if goodW = goodW then [(0, 0)] else []) ++ (if goodW = failW then _ else []) ++ fatesOf l = _
  rw [if_pos rfl, if_neg (by decide)]; rfl
theorem fatesOf_fail (y : Bytes) (l : List Bytes) : fatesOf (failW :: y :: l) = (1, number31 y) :: fatesOf (y :: l) := by
  show (if failW = goodW then [(0, 0)] else []) ++ (if failW = failW then ([((1 : Int), number31 y)] : List (Int × Int)) else []) ++ fatesOf (y :: l) = _
  rw [if_pos rfl, if_neg (by decide)]; rfl
theorem fatesOf_last : fatesOf [failW] = [] := by
  show (if failW = goodW then [(0, 0)] else []) ++ (if failW = failW then ([] : List (Int × Int)) else []) ++ [] = _
  rw [if_pos rfl, if_neg (by decide)]; rfl
theorem fatesOf_other (x : Bytes) (l : List Bytes) (h1 : ¬ x = goodW) (h2 : ¬ x = failW) : fatesOf (x :: l) = fatesOf l := by
  show (if x = goodW then [(0, 0)] else []) ++ (if x = failW then (match l with | [] => [] | y :: _ => ([((1 : Int), number31 y)] : List (Int × Int))) else []) ++ fatesOf l = _
  rw [if_neg h1, if_neg h2]; rfl
end Go.Proofs.YtimglodailhkaaaGreat
