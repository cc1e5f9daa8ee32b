/-
  ScriptLines: facts for its walk.
-/
import Derived.Test.YtimglodailhkaaaGreatWk
import Derived.Test.YtimglodailhkaaaGreatCp
import Derived.Test.YtimglodailhkaaaGreatRp
namespace Go.Proofs.YtimglodailhkaaaGreat
open Go Go.RowKit
theorem may_small {e : Ev} (h : may31 e = true) : e.small := by
  unfold may31 at h
  simp only [Bool.and_eq_true, decide_eq_true_eq] at h
  obtain ⟨⟨⟨⟨⟨⟨⟨⟨⟨_, _⟩, h3⟩, h4⟩, h5⟩, _⟩, _⟩, _⟩, _⟩, _⟩ := h
  exact ⟨by omega, by omega, by omega⟩
/-- An event's value, its numbers named. -/
theorem EvAt.named {w : World} {v : Value} {e : Ev} (h : EvAt w v e) : ∃ k cn a1 n1 c1 a2 n2 c2 a3 n3 c3, v = .agg #[.int .i64 k, .int .i64 cn, .slice a1 n1 c1, .slice a2 n2 c2, .slice a3 n3 c3] ∧ e.kind = k ∧ e.conn = cn ∧ e.bytes.length = n1 ∧ e.fates.length = n2 ∧ e.picks.length = n3 := by
  obtain ⟨a1, c1, a2, c2, a3, c3, rfl, _⟩ := h.form
  exact ⟨_, _, _, _, _, _, _, _, _, _, _, rfl, rfl, rfl, rfl, rfl, rfl⟩
theorem KeptAt.named {w : World} {v : Value} {e : Ev} (h : KeptAt w v e) : ∃ k cn a1 n1 c1 a2 n2 c2 a3 n3 c3, v = .agg #[.int .i64 k, .int .i64 cn, .slice a1 n1 c1, .slice a2 n2 c2, .slice a3 n3 c3] ∧ e.kind = k ∧ e.conn = cn ∧ e.bytes.length = n1 ∧ e.fates.length = n2 ∧ e.picks.length = n3 := h.at.named
end Go.Proofs.YtimglodailhkaaaGreat
