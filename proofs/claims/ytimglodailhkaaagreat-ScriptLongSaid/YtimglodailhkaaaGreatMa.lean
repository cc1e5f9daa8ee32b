/-
  The document's May walked.
-/
import Derived.Test.YtimglodailhkaaaGreatSb
namespace Go.Proofs.YtimglodailhkaaaGreat
open Go Go.RowKit
def Bad1 (k n1 n2 n3 : Int) : Prop := k < 1 ∨ 5 < k ∨ 1048576 < n1 ∨ 65536 < n2 ∨ 65536 < n3
def Bad2 (k cn n1 n2 n3 : Int) : Prop := (k ≠ 2 ∧ k ≠ 3 ∧ cn ≠ 0) ∨ (k ≠ 2 ∧ 0 < n1) ∨ (k ≠ 4 ∧ 0 < n2) ∨ (k ≠ 5 ∧ 0 < n3)
theorem isEmpty_len {α : Type} (l : List α) : l.isEmpty = decide (¬ 0 < (l.length : Int)) := by cases l <;> simp
theorem may31_bad {e : Ev} (h : Bad1 e.kind e.bytes.length e.fates.length e.picks.length ∨ Bad2 e.kind e.conn e.bytes.length e.fates.length e.picks.length) : may31 e = false := by
  rw [Bool.eq_false_iff]
  intro h2
  unfold may31 at h2
  simp only [Bool.and_eq_true, Bool.or_eq_true, beq_iff_eq, decide_eq_true_eq, isEmpty_len] at h2
  unfold Bad1 Bad2 at h
  omega
theorem may31_good {e : Ev} (h1 : ¬ Bad1 e.kind e.bytes.length e.fates.length e.picks.length) (h2 : ¬ Bad2 e.kind e.conn e.bytes.length e.fates.length e.picks.length) : may31 e = e.fates.all fateOk := by
  have h : (decide (1 ≤ e.kind) && decide (e.kind ≤ 5) && decide (e.bytes.length ≤ 1048576) && decide (e.fates.length ≤ 65536) && decide (e.picks.length ≤ 65536) &&
      (e.kind == 2 || e.kind == 3 || e.conn == 0) && (e.kind == 2 || e.bytes.isEmpty) && (e.kind == 4 || e.fates.isEmpty) && (e.kind == 5 || e.picks.isEmpty)) = true := by
    simp only [Bool.and_eq_true, Bool.or_eq_true, beq_iff_eq, decide_eq_true_eq, isEmpty_len]
    unfold Bad1 at h1
    unfold Bad2 at h2
    omega
  unfold may31
  rw [h, Bool.true_and]
theorem all_from (p : Int × Int → Bool) (l : List (Int × Int)) (k : Nat) (h : k < l.length) : (l.drop k).all p = (p l[k] && (l.drop (k + 1)).all p) := by
  rw [List.drop_eq_getElem_cons h, List.all_cons]
end Go.Proofs.YtimglodailhkaaaGreat
