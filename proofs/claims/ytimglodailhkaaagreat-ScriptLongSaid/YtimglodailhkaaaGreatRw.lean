/-
  What Read gathers, in memory; the candidate, in plain terms.
-/
import Derived.Test.YtimglodailhkaaaGreatWo
import Derived.Deep.RegionLaw
import Derived.Deep.AppendLies
namespace Go.Proofs.YtimglodailhkaaaGreat
open Go Go.RowKit
/-- Blocks of elements of this type lie as they lay. -/
def Kt (T : TypeId) (W W2 : World) : Prop := ∀ (k : Nat) (cs : Array Value) (fr : Nat × Nat), W.heap[k]? = some (Obj.cells cs T fr) → W2.heap[k]? = some (Obj.cells cs T fr)
theorem Kt.refl (T : TypeId) (W : World) : Kt T W W := fun _ _ _ h => h
theorem Kt.trans {T : TypeId} {A B C : World} (h : Kt T A B) (k : Kt T B C) : Kt T A C := fun i cs fr hi => k i cs fr (h i cs fr hi)
theorem Kt.ofFr {T : TypeId} {W W' : World} (h : Fr No W W') : Kt T W W' := fun _ _ _ hk => h.at hk (fun h => h)
theorem Kt.set {T T' : TypeId} {W : World} {p : Addr} {cs : Array Value} {fr : Nat × Nat} (hp : W.heap[p.block]? = some (.cells cs T' fr)) (hT : T' ≠ T) (u : Value) : Kt T W (W.setCell p u) := fun k cs' fr' hk => by
  refine (heap_setCell_other W p k u (fun e => ?_)).trans hk
  subst e
  rw [hp] at hk
  cases hk
  exact hT rfl
theorem own_ne {W : World} {base size n k : Nat} {T T' : TypeId} {v : Value} {xs : List Value} {cs : Array Value} {fr : Nat × Nat} (ho : W.ownsRow base T' size v n xs) (hk : W.heap[k]? = some (.cells cs T fr)) (hT : T ≠ T') : v.ownBlock ≠ some k := by
  intro e
  rcases ho.2 with ⟨rfl, _⟩ | ⟨g, cap, cur, rfl, _, hg, _⟩
  · cases e
  · have e2 : g = k := by simpa [Value.ownBlock] using e
    subst e2
    rw [hg] at hk
    cases hk
    exact hT rfl
theorem Kt.grown {T T' : TypeId} {W W' : World} {base size n : Nat} {v : Value} {xs : List Value} (ho : W.ownsRow base T' size v n xs) (hg : W.grownBy W' v.ownBlock) (hT : T ≠ T') : Kt T W W' := fun k _ _ hk =>
  (hg.block k (lt_of_block hk) (fun e => own_ne ho hk hT e.symm)).trans hk
theorem Kt.owns {T : TypeId} {W W' : World} {base size n : Nat} {v : Value} {xs : List Value} (h : Kt T W W') (ho : W.ownsRow base T size v n xs) : W'.ownsRow base T size v n xs := by
  refine ⟨ho.1, ?_⟩
  rcases ho.2 with hn | ⟨g, cap, cur, e1, e2, e3, rest⟩
  · exact .inl hn
  · exact .inr ⟨g, cap, cur, e1, e2, h _ _ _ e3, rest⟩
theorem WS.kt {w : World} {g cap : Nat} {ws : List Bytes} {W W' : World} (h : WS w g cap ws W) (hk : Kt 9 W W') (hf : Fr No w W') (hs : W.heap.size ≤ W'.heap.size) : WS w g cap ws W' :=
  ⟨hk.owns h.own, hf, h.lt.1, Nat.lt_of_lt_of_le h.lt.2 hs⟩
theorem WS.at {w : World} {g cap : Nat} {ws : List Bytes} {W : World} (h : WS w g cap ws W) (i : Nat) (hi : i < ws.length) : W.cell? ⟨g, i, none⟩ = some (strV ws[i]) ∧ g < W.heap.size := by
  refine ⟨?_, h.lt.2⟩
  have ho := h.own
  unfold OwnsS at ho
  rw [World.ownsRow.cellAt ho i (by omega)]
  simp [hi]
/-- Where Read stands: the event that it gathers, in its block; the words. -/
structure RD (w : World) (B g cap : Nat) (ws : List Bytes) (k cn : Int) (vb : Value) (bs : Bytes) (vf : Value) (fs : List (Int × Int)) (vp : Value) (ps : List Int) (W : World) : Prop where
  blk : W.heap[B]? = some (.cells #[.int .i64 k, .int .i64 cn, vb, vf, vp] 28 (0, 0))
  le : w.heap.size ≤ B
  ob : W.ownsRow w.heap.size 5 1 vb bs.length (byteCs bs)
  of : W.ownsRow w.heap.size 78 2 vf fs.length (fateCs fs)
  op : W.ownsRow w.heap.size 3 1 vp ps.length (intCs ps)
  ws : WS w g cap ws W
theorem RD.fr {w : World} {B g cap : Nat} {ws : List Bytes} {k cn : Int} {vb : Value} {bs : Bytes} {vf : Value} {fs : List (Int × Int)} {vp : Value} {ps : List Int} {W : World} (h : RD w B g cap ws k cn vb bs vf fs vp ps W) : Fr No w W := h.ws.fr
theorem RD.no {w : World} {B g cap : Nat} {ws : List Bytes} {k cn : Int} {vb : Value} {bs : Bytes} {vf : Value} {fs : List (Int × Int)} {vp : Value} {ps : List Int} {W W' : World} (h : RD w B g cap ws k cn vb bs vf fs vp ps W) (hf : Fr No W W') : RD w B g cap ws k cn vb bs vf fs vp ps W' :=
  ⟨hf.at h.blk (fun h => h), h.le, (Kt.ofFr hf).owns h.ob, (Kt.ofFr hf).owns h.of, (Kt.ofFr hf).owns h.op, h.ws.no hf⟩
theorem RD.set {w : World} {B g cap : Nat} {ws : List Bytes} {k cn : Int} {vb : Value} {bs : Bytes} {vf : Value} {fs : List (Int × Int)} {vp : Value} {ps : List Int} {W : World} (h : RD w B g cap ws k cn vb bs vf fs vp ps W) (j : Nat) (u : Value) :
    Fr No w (W.setCell ⟨B, j, none⟩ u) ∧ (W.setCell ⟨B, j, none⟩ u).heap[B]? = some (.cells (#[.int .i64 k, .int .i64 cn, vb, vf, vp].setIfInBounds j u) 28 (0, 0)) ∧
    Kt 5 W (W.setCell ⟨B, j, none⟩ u) ∧ Kt 78 W (W.setCell ⟨B, j, none⟩ u) ∧ Kt 3 W (W.setCell ⟨B, j, none⟩ u) ∧ WS w g cap ws (W.setCell ⟨B, j, none⟩ u) := by
  have hf : Fr No w (W.setCell ⟨B, j, none⟩ u) := h.fr.setCell _ _ (fun hlt => absurd hlt (by have := h.le; show ¬ B < w.heap.size; omega))
  exact ⟨hf, heap_setCell_same W B j _ _ _ h.blk, Kt.set (p := ⟨B, j, none⟩) h.blk (by decide) u, Kt.set (p := ⟨B, j, none⟩) h.blk (by decide) u, Kt.set (p := ⟨B, j, none⟩) h.blk (by decide) u, h.ws.kt (Kt.set (p := ⟨B, j, none⟩) h.blk (by decide) u) hf (by simp [World.setCell])⟩
/-- What the words say, as far as they do. -/
def goodW : Bytes := [103, 111, 111, 100]
def failW : Bytes := [102, 97, 105, 108]
def fatesOf : List Bytes → List (Int × Int)
  | [] => []
  | x :: l => (if x = goodW then [(0, 0)] else []) ++ (if x = failW then (match l with | [] => [] | y :: _ => ([((1 : Int), number31 y)] : List (Int × Int))) else []) ++ fatesOf l
def bytesOf : Bytes → Bytes
  | a :: b :: l => UInt8.ofNat (16 * (dig31 a).toNat + (dig31 b).toNat) :: bytesOf l
  | _ => []
def kindOf (x : Bytes) : Int := if x = connectB then 1 else if x = sendB then 2 else if x = closeB then 3 else if x = feedB then 4 else if x = crashB then 5 else 0
def cand31 (ws : List Bytes) : Ev :=
  let k := kindOf (ws.headD [])
  { kind := k
    conn := if k = 2 ∨ k = 3 then (match ws.tail with | [] => 0 | y :: _ => number31 y) else 0
    bytes := if k = 2 then (match ws.tail.tail with | [] => [] | y :: _ => if y = [45] then [] else bytesOf y) else []
    fates := if k = 4 then fatesOf ws.tail else []
    picks := if k = 5 then ws.tail.map number31 else [] }
def read31 (s : Bytes) : Option Ev := if may31 (cand31 (words31 s)) = true ∧ line31 (cand31 (words31 s)) = s then some (cand31 (words31 s)) else none
end Go.Proofs.YtimglodailhkaaaGreat
