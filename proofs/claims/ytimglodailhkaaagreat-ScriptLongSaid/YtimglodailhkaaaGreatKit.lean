/-
  Small laws on worlds for the walks of this seat: 'Fr X w w'': of the blocks that were there, only those in X may have turned.
-/
import Derived.WalkKit
import Derived.WalkSpells
import Derived.WalkLawsBesides
import Derived.Lib.Hide
import Derived.Deep.RegionWith
namespace Go.Proofs.YtimglodailhkaaaGreat
open Go Go.RowKit
/-- Of the old blocks of w, those outside X are in w' as they were; nothing outside the heap has turned. -/
structure Fr (X : Nat → Prop) (w w' : World) : Prop where
  os : w'.os = w.os
  tape : w'.tape = w.tape
  output : w'.output = w.output
  size : w.heap.size ≤ w'.heap.size
  block : ∀ k, k < w.heap.size → ¬ X k → w'.heap[k]? = w.heap[k]?

def No : Nat → Prop := fun _ => False
def One (b : Nat) : Nat → Prop := fun k => k = b
def Two (b c : Nat) : Nat → Prop := fun k => k = b ∨ k = c

theorem Fr.refl (X : Nat → Prop) (w : World) : Fr X w w := ⟨rfl, rfl, rfl, Nat.le_refl _, fun _ _ _ => rfl⟩
theorem Fr.trans {X Y : Nat → Prop} {a b c : World} (h : Fr X a b) (k : Fr Y b c) (hXY : ∀ i, i < a.heap.size → Y i → X i) : Fr X a c :=
  ⟨k.os.trans h.os, k.tape.trans h.tape, k.output.trans h.output, Nat.le_trans h.size k.size, fun i hi hx =>
    (k.block i (Nat.lt_of_lt_of_le hi h.size) (fun hy => hx (hXY i hi hy))).trans (h.block i hi hx)⟩
theorem Fr.trans_same {X : Nat → Prop} {a b c : World} (h : Fr X a b) (k : Fr X b c) : Fr X a c := h.trans k fun _ _ h => h
theorem Fr.trans_no {X : Nat → Prop} {a b c : World} (h : Fr X a b) (k : Fr No b c) : Fr X a c := h.trans k fun _ _ h => h.elim
theorem Fr.mono {X Y : Nat → Prop} {a b : World} (h : Fr X a b) (hXY : ∀ i, i < a.heap.size → X i → Y i) : Fr Y a b :=
  ⟨h.os, h.tape, h.output, h.size, fun i hi hx => h.block i hi (fun hy => hx (hXY i hi hy))⟩
theorem Fr.drew {X : Nat → Prop} {a b : World} (h : Fr X a b) : Fr X a b.drew := ⟨h.os, h.tape, h.output, h.size, h.block⟩
theorem Fr.drewN {X : Nat → Prop} {a b : World} (h : Fr X a b) (n : Nat) : Fr X a (b.drewN n) := ⟨h.os, h.tape, h.output, h.size, h.block⟩
theorem Fr.alloc {X : Nat → Prop} {a b : World} (h : Fr X a b) (o : Obj) : Fr X a (b.alloc o) :=
  h.trans (Y := No) ⟨rfl, rfl, rfl, by simp, fun k hk _ => Below.heap_alloc _ _ _ (by omega)⟩ fun _ _ h => h.elim
theorem Fr.setCell {X : Nat → Prop} {a b : World} (h : Fr X a b) (p : Addr) (u : Value) (hp : p.block < a.heap.size → X p.block) : Fr X a (b.setCell p u) :=
  h.trans (Y := One p.block) ⟨rfl, rfl, rfl, by simp [World.setCell], fun k _ hk => Below.heap_setCell _ _ _ _ hk⟩ fun i hi e => by
    have e' : i = p.block := e
    subst e'; exact hp hi
theorem Fr.grown {X : Nat → Prop} {a b c : World} {row : Option Nat} (h : Fr X a b) (hg : b.grownBy c row) (hr : ∀ k, row = some k → k < a.heap.size → X k) : Fr X a c :=
  ⟨hg.os.trans h.os, hg.tape.trans h.tape, hg.output.trans h.output, Nat.le_trans h.size hg.size, fun k hk hx =>
    (hg.block k (Nat.lt_of_lt_of_le hk h.size) (fun e => hx (hr k e.symm hk))).trans (h.block k hk hx)⟩
theorem Fr.below {X : Nat → Prop} {B : Nat} {a b c : World} (h : Fr X a b) (hb : Below B b c) (hr : ∀ k, B ≤ k → k < a.heap.size → X k) : Fr X a c :=
  ⟨hb.os.trans h.os, hb.tape.trans h.tape, hb.output.trans h.output, Nat.le_trans h.size hb.size, fun k hk hx =>
    (hb.block k (Nat.lt_of_not_le fun hB => hx (hr k hB hk))).trans (h.block k hk hx)⟩
theorem Fr.freeze {X : Nat → Prop} {a b : World} (h : Fr X a b) (p : Addr) (n : Nat) (hp : a.heap.size ≤ p.block) : Fr X a (b.freeze p n) := by
  unfold World.freeze
  split
  · exact h
  · exact ⟨h.os, h.tape, h.output, by simpa using h.size, fun k hk hx => by
      rw [← h.block k hk hx, Array.getElem?_modify, if_neg (by omega)]⟩
theorem Fr.cell {X : Nat → Prop} {a b : World} (h : Fr X a b) {p : Addr} (hp : p.block < a.heap.size) (hx : ¬ X p.block) : b.cell? p = a.cell? p :=
  World.cell?_of_block (w := a) (h.block p.block hp hx)
theorem Fr.frozen {X : Nat → Prop} {a b : World} (h : Fr X a b) {p : Addr} (hp : p.block < a.heap.size) (hx : ¬ X p.block) : b.frozen? p = a.frozen? p :=
  World.frozen?_of_block (w := a) (h.block p.block hp hx)
theorem Fr.at {X : Nat → Prop} {a b : World} (h : Fr X a b) {k : Nat} {o : Obj} (hk : a.heap[k]? = some o) (hx : ¬ X k) : b.heap[k]? = some o :=
  (h.block k (lt_of_block hk) hx).trans hk
theorem Fr.toBelow {w w' : World} (h : Fr No w w') : Below w.heap.size w w' := ⟨h.os, h.tape, h.output, h.size, fun k hk => h.block k hk id⟩
theorem Fr.ofBelow {w w' : World} (h : Below w.heap.size w w') : Fr No w w' := ⟨h.os, h.tape, h.output, h.size, fun k hk _ => h.block k hk⟩
/-- What the call owns stays owned, where its block is not among those that may turn. -/
theorem Fr.owns {X : Nat → Prop} {w w' : World} {base : Nat} {e : TypeId} {size : Nat} {v : Value} {n : Nat} {xs : List Value} (h : Fr X w w')
    (ho : w.ownsRow base e size v n xs) (hx : ∀ k, v.ownBlock = some k → ¬ X k) : w'.ownsRow base e size v n xs := by
  refine ⟨ho.1, ?_⟩
  rcases ho.2 with hn | ⟨g, cap, cur, rfl, hb, hgg, rest⟩
  · exact .inl hn
  · exact .inr ⟨g, cap, cur, rfl, hb, by rw [h.block g (lt_of_block hgg) (hx g rfl)]; exact hgg, rest⟩
theorem owns_base {w : World} {base base' : Nat} {e : TypeId} {size : Nat} {v : Value} {n : Nat} {xs : List Value} (ho : w.ownsRow base e size v n xs) (h : base' ≤ base) : w.ownsRow base' e size v n xs := by
  refine ⟨ho.1, ?_⟩
  rcases ho.2 with hn | ⟨g, cap, cur, rfl, hb, rest⟩
  · exact .inl hn
  · exact .inr ⟨g, cap, cur, rfl, by omega, rest⟩

end Go.Proofs.YtimglodailhkaaaGreat
