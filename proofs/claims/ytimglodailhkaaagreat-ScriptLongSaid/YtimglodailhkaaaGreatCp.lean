/-
  copied walked: an event in memory of its own.
-/
import Derived.Test.YtimglodailhkaaaGreatKz
import Derived.Test.YtimglodailhkaaaGreatKp
import Derived.Deep.DeepCutAuto
namespace Go.Proofs.YtimglodailhkaaaGreat
open Go Go.RowKit
theorem Row.add {W : World} {g : Nat} {cs : List Value} (h : Row W g cs) : ∀ j u, cs[j]? = some u → W.cell? ((⟨g, 0, none⟩ : Addr).add j) = some u := fun j u hj => by
  have hadd : (⟨g, 0, none⟩ : Addr).add j = ⟨g, j, none⟩ := by
    unfold Addr.add
    split
    · rename_i h0; subst h0; rfl
    · rw [Nat.zero_add]
  rw [hadd]
  exact h.2 j u hj
theorem Row.grown {W W' : World} {g : Nat} {cs : List Value} {v : Value} (h : Row W g cs) (k : W.grownBy W' v.ownBlock) (hne : some g ≠ v.ownBlock) : Row W' g cs :=
  ⟨Nat.lt_of_lt_of_le h.1 k.size, fun j u hj => (show W'.cell? ⟨g, j, none⟩ = W.cell? ⟨g, j, none⟩ from World.cell?_of_block (w := W) (k.block g h.1 hne)).trans (h.2 j u hj)⟩
theorem own_cap {W : World} {base size g cap n : Nat} {T : TypeId} {xs : List Value} (h : W.ownsRow base T size (.slice (some ⟨g, 0, none⟩) n cap) n xs) : n ≤ cap := by
  rcases h.2 with ⟨h1, _⟩ | ⟨g', cap', cur, e, _, hg, hnc, hr⟩
  · cases h1
  · injection e with e1 e2 e3
    subst e3
    exact hnc
/-- Where copied stands: the event in its block, the block of the result. -/
structure CP (w : World) (B : Nat) (k cn : Int) (v1 v2 v3 : Value) (W : World) : Prop where
  ev : W.heap[B]? = some (.cells #[.int .i64 k, .int .i64 cn, v1, v2, v3] 28 (0, 0))
  rs : W.heap[B + 1]? = some (.cells #[.int .i64 0, .int .i64 0, .slice none 0 0, .slice none 0 0, .slice none 0 0] 28 (0, 0))
  fr : Fr No w W
  le : w.heap.size ≤ B
theorem CP.no {w : World} {B : Nat} {k cn : Int} {v1 v2 v3 : Value} {W W' : World} (h : CP w B k cn v1 v2 v3 W) (hf : Fr No W W') : CP w B k cn v1 v2 v3 W' :=
  ⟨hf.at h.ev (fun h => h), hf.at h.rs (fun h => h), h.fr.trans_same hf, h.le⟩
theorem CP.grown {w : World} {B : Nat} {k cn : Int} {v1 v2 v3 : Value} {W W' : World} {T : TypeId} {size n : Nat} {v : Value} {xs : List Value} (h : CP w B k cn v1 v2 v3 W)
    (ho : W.ownsRow w.heap.size T size v n xs) (hT : 28 ≠ T) (hg : W.grownBy W' v.ownBlock) : CP w B k cn v1 v2 v3 W' :=
  ⟨Kt.grown ho hg hT _ _ _ h.ev, Kt.grown ho hg hT _ _ _ h.rs, h.fr.grown hg (fun r e hr => by have := (World.ownsRow.lt ho r e).1; omega), h.le⟩
theorem CP.set {w : World} {B : Nat} {k cn : Int} {v1 v2 v3 : Value} {W : World} (h : CP w B k cn v1 v2 v3 W) (j : Nat) (u : Value) :
    (W.setCell ⟨B, j, none⟩ u).heap[B]? = some (.cells (#[.int .i64 k, .int .i64 cn, v1, v2, v3].setIfInBounds j u) 28 (0, 0)) ∧
    (W.setCell ⟨B, j, none⟩ u).heap[B + 1]? = some (.cells #[.int .i64 0, .int .i64 0, .slice none 0 0, .slice none 0 0, .slice none 0 0] 28 (0, 0)) ∧ Fr No w (W.setCell ⟨B, j, none⟩ u) :=
  ⟨heap_setCell_same W B j _ _ _ h.ev, (heap_setCell_other W ⟨B, j, none⟩ (B + 1) u (by show B + 1 ≠ B; omega)).trans h.rs, h.fr.setCell _ _ (fun hlt => absurd hlt (by have := h.le; show ¬ B < w.heap.size; omega))⟩
/-- A slice of n elements in memory of the call's own, one more element behind. -/
def Own (w : World) (T : TypeId) (size n : Nat) (cs : List Value) (v : Value) (W : World) : Prop :=
  ∃ g cap, v = .slice (some ⟨g, 0, none⟩) n cap ∧ W.ownsRow w.heap.size T size (.slice (some ⟨g, 0, none⟩) (n + 1) cap) (n + 1) cs
theorem Own.kt {w : World} {T : TypeId} {size n : Nat} {cs : List Value} {v : Value} {W W' : World} (h : Own w T size n cs v W) (hk : Kt T W W') : Own w T size n cs v W' := by
  obtain ⟨g, cap, h1, h2⟩ := h
  exact ⟨g, cap, h1, hk.owns h2⟩
theorem Own.row {w : World} {T : TypeId} {size n : Nat} {cs : List Value} {v : Value} {W : World} (h : Own w T size n cs v W) (hl : cs.length = (n + 1) * size) : ∃ g cap, v = .slice (some ⟨g, 0, none⟩) n cap ∧ Row W g cs ∧ n + 1 ≤ cap ∧ ∃ cur, W.heap[g]? = some (.cells cur T (0, 0)) := by
  obtain ⟨g, cap, e, ho⟩ := h
  have hb : ∃ cur, W.heap[g]? = some (.cells cur T (0, 0)) := by
    rcases ho.2 with ⟨h', _⟩ | ⟨g', cap', cur', h', _, hg, _⟩
    · cases h'
    · simp only [Value.slice.injEq, Option.some.injEq, Addr.mk.injEq, and_true, true_and] at h'
      obtain ⟨rfl, _⟩ := h'
      exact ⟨cur', hg⟩
  refine ⟨g, cap, e, ⟨(World.ownsRow.lt ho g rfl).2, fun j v hj => ?_⟩, own_cap ho, hb⟩
  have hj2 := (List.getElem?_eq_some_iff.1 hj).1
  rw [World.ownsRow.cellAt ho j (by omega)]
  rw [List.getElem?_eq_some_iff] at hj
  exact hj.2 ▸ (by simp)
/-- Its lists lie in blocks of their own elements. -/
def KeptTy (W : World) (v : Value) : Prop := ∃ k cn g1 n1 c1 g2 n2 c2 g3 n3 c3 cur1 cur2 cur3, v = .agg #[.int .i64 k, .int .i64 cn, .slice (some ⟨g1, 0, none⟩) n1 c1, .slice (some ⟨g2, 0, none⟩) n2 c2, .slice (some ⟨g3, 0, none⟩) n3 c3] ∧
  W.heap[g1]? = some (.cells cur1 5 (0, 0)) ∧ W.heap[g2]? = some (.cells cur2 78 (0, 0)) ∧ W.heap[g3]? = some (.cells cur3 3 (0, 0))
theorem KeptTy.no {w w' : World} {v : Value} (h : KeptTy w v) (hf : Fr No w w') : KeptTy w' v := by
  obtain ⟨k, cn, g1, n1, c1, g2, n2, c2, g3, n3, c3, u1, u2, u3, rfl, t1, t2, t3⟩ := h
  exact ⟨k, cn, g1, n1, c1, g2, n2, c2, g3, n3, c3, u1, u2, u3, rfl, hf.at t1 (fun h => h), hf.at t2 (fun h => h), hf.at t3 (fun h => h)⟩
theorem Row.same {W W' : World} {g : Nat} {cs : List Value} (h : Row W g cs) (e : W'.heap[g]? = W.heap[g]?) : Row W' g cs := by
  have h1 := h.1
  have h2 : g < W'.heap.size := by
    rcases Nat.lt_or_ge g W'.heap.size with hl | hl
    · exact hl
    · rw [Array.getElem?_eq_none hl, Array.getElem?_eq_getElem h1] at e
      cases e
  exact ⟨h2, fun j u hj => (show W'.cell? ⟨g, j, none⟩ = W.cell? ⟨g, j, none⟩ from World.cell?_of_block (w := W) e).trans (h.2 j u hj)⟩
/-- A row of events grows: what is kept stays kept. -/
theorem KeptAt.grown {W W' : World} {v vm : Value} {e : Ev} {base n : Nat} {xs : List Value} (h : KeptAt W v e) (t : KeptTy W v) (ho : W.ownsRow base 28 5 vm n xs) (k : W.grownBy W' vm.ownBlock) : KeptAt W' v e ∧ KeptTy W' v := by
  obtain ⟨g1, c1, g2, c2, g3, c3, rfl, ⟨r1, q1⟩, ⟨r2, q2⟩, ⟨r3, q3⟩⟩ := h.form
  obtain ⟨k0, cn0, f1, m1, d1, f2, m2, d2, f3, m3, d3, u1, u2, u3, ev, t1, t2, t3⟩ := t
  simp only [Value.agg.injEq, Array.mk.injEq, List.cons.injEq, Value.slice.injEq, Value.int.injEq, Option.some.injEq, Addr.mk.injEq, true_and, and_true] at ev
  obtain ⟨rfl, rfl, ⟨rfl, rfl, rfl⟩, ⟨rfl, rfl, rfl⟩, rfl, rfl, rfl⟩ := ev
  have b1 := k.block g1 (lt_of_block t1) (fun e => own_ne ho t1 (by decide) e.symm)
  have b2 := k.block g2 (lt_of_block t2) (fun e => own_ne ho t2 (by decide) e.symm)
  have b3 := k.block g3 (lt_of_block t3) (fun e => own_ne ho t3 (by decide) e.symm)
  exact ⟨⟨g1, c1, g2, c2, g3, c3, rfl, ⟨r1.same b1, q1⟩, ⟨r2.same b2, q2⟩, ⟨r3.same b3, q3⟩⟩, ⟨_, _, g1, _, c1, g2, _, c2, g3, _, c3, u1, u2, u3, rfl, b1.trans t1, b2.trans t2, b3.trans t3⟩⟩
end Go.Proofs.YtimglodailhkaaaGreat
