/-
  Parts of a script, in plain terms and in memory.
-/
import Derived.Test.YtjidpccgjiogbaaGreatDoorYe
namespace Go.Proofs.YtjidpccgjiogbaaGreatDoor
open Go Go.RowKit
/-- The value of an event of its own: its lists lie from lo on, below hi. -/
structure NewIn (W : World) (lo hi : Nat) (v : Value) (e : Ev) : Prop where
  form : ∃ v1 v2 v3, v = .agg #[.int .i64 e.kind, .int .i64 e.conn, v1, v2, v3] ∧ W.ownsRow lo 5 1 v1 e.bytes.length (byteCs e.bytes) ∧ W.ownsRow lo 70 2 v2 e.fates.length (fateCs e.fates) ∧ W.ownsRow lo 3 1 v3 e.picks.length (intCs e.picks) ∧
    ∀ k, (v1.ownBlock = some k ∨ v2.ownBlock = some k ∨ v3.ownBlock = some k) → k < hi
theorem NewIn.of {W : World} {lo : Nat} {v : Value} {e : Ev} (h : NewAt W lo v e) : NewIn W lo W.heap.size v e := by
  obtain ⟨v1, v2, v3, rfl, h1, h2, h3⟩ := h.form
  refine ⟨v1, v2, v3, rfl, h1, h2, h3, ?_⟩
  rintro k (hk | hk | hk)
  · exact (World.ownsRow.lt h1 k hk).2
  · exact (World.ownsRow.lt h2 k hk).2
  · exact (World.ownsRow.lt h3 k hk).2
/-- What keeps the lists of events. -/
structure Kt3 (W W' : World) : Prop where
  b : Kt 5 W W'
  f : Kt 70 W W'
  p : Kt 3 W W'
theorem Kt3.ofFr {W W' : World} (h : Fr No W W') : Kt3 W W' := ⟨Kt.ofFr h, Kt.ofFr h, Kt.ofFr h⟩
theorem Kt3.trans {A B C : World} (h : Kt3 A B) (k : Kt3 B C) : Kt3 A C := ⟨h.b.trans k.b, h.f.trans k.f, h.p.trans k.p⟩
theorem NewIn.kt {W W' : World} {lo hi : Nat} {v : Value} {e : Ev} (h : NewIn W lo hi v e) (k : Kt3 W W') : NewIn W' lo hi v e := by
  obtain ⟨v1, v2, v3, rfl, h1, h2, h3, h4⟩ := h.form
  exact ⟨v1, v2, v3, rfl, k.b.owns h1, k.f.owns h2, k.p.owns h3, h4⟩
/-- Events of their own, each one's lists behind the other's. -/
def Chain (W : World) : Nat → Nat → List (Value × Ev) → Prop
  | lo, hi, [] => lo ≤ hi
  | lo, hi, p :: l => ∃ mid, lo ≤ mid ∧ NewIn W lo mid p.1 p.2 ∧ Chain W mid hi l
theorem Chain.kt {W W' : World} (k : Kt3 W W') : ∀ {l : List (Value × Ev)} {lo hi : Nat}, Chain W lo hi l → Chain W' lo hi l
  | [], _, _, h => h
  | _ :: _, _, _, ⟨mid, h1, h2, h3⟩ => ⟨mid, h1, h2.kt k, Chain.kt k h3⟩
theorem Chain.le {W : World} : ∀ {l : List (Value × Ev)} {lo hi : Nat}, Chain W lo hi l → lo ≤ hi
  | [], _, _, h => h
  | _ :: _, _, _, ⟨_, h1, _, h3⟩ => Nat.le_trans h1 (Chain.le h3)
theorem Chain.mono {W : World} : ∀ {l : List (Value × Ev)} {lo hi hi' : Nat}, Chain W lo hi l → hi ≤ hi' → Chain W lo hi' l
  | [], _, _, _, h, k => Nat.le_trans h k
  | _ :: _, _, _, _, ⟨mid, h1, h2, h3⟩, k => ⟨mid, h1, h2, Chain.mono h3 k⟩
theorem Chain.snoc {W : World} {v : Value} {e : Ev} {mid hi : Nat} (hn : NewIn W mid hi v e) (hm : mid ≤ hi) : ∀ {l : List (Value × Ev)} {lo : Nat}, Chain W lo mid l → Chain W lo hi (l ++ [(v, e)])
  | [], lo, h => ⟨hi, Nat.le_trans h hm, by
      obtain ⟨v1, v2, v3, rfl, h1, h2, h3, h4⟩ := hn.form
      exact ⟨v1, v2, v3, rfl, owns_base h1 h, owns_base h2 h, owns_base h3 h, h4⟩, Nat.le_refl _⟩
  | _ :: _, _, ⟨m, h1, h2, h3⟩ => ⟨m, h1, h2, Chain.snoc hn hm h3⟩
/-- A row of events: its cells. -/
def rowCells (r : List (Value × Ev)) : List Value := r.flatMap (fun p => p.1.cells.toList)
theorem rowCells_snoc (r : List (Value × Ev)) (p : Value × Ev) : rowCells (r ++ [p]) = rowCells r ++ p.1.cells.toList := by
  unfold rowCells
  rw [List.flatMap_append]
  simp
/-- Parts: the events between crashes. -/
def parts31 : List Ev → List (List Ev)
  | [] => [[]]
  | e :: es => if e.kind = 5 then [] :: parts31 es else match parts31 es with
    | [] => [[e]]
    | p :: ps => (e :: p) :: ps
theorem parts_ne : ∀ (es : List Ev), parts31 es ≠ []
  | [] => by simp [parts31]
  | e :: es => by
    unfold parts31
    split
    · simp
    · split <;> simp
/-- What stands in front of the first part. -/
def glue (cur : List Ev) : List (List Ev) → List (List Ev)
  | [] => [cur]
  | p :: ps => (cur ++ p) :: ps
theorem glue_nil (es : List Ev) : glue [] (parts31 es) = parts31 es := by
  cases h : parts31 es with
  | nil => exact absurd h (parts_ne es)
  | cons p ps => rfl
theorem glue_crash (cur : List Ev) (e : Ev) (es : List Ev) (h : e.kind = 5) : glue cur (parts31 (e :: es)) = cur :: glue [] (parts31 es) := by
  rw [glue_nil]
  rw [parts31, if_pos h]
  simp [glue]
theorem glue_one (cur : List Ev) (e : Ev) (es : List Ev) (h : ¬ e.kind = 5) : glue cur (parts31 (e :: es)) = glue (cur ++ [e]) (parts31 es) := by
  rw [parts31, if_neg h]
  cases hp : parts31 es with
  | nil => exact absurd hp (parts_ne es)
  | cons p ps => simp [glue]
abbrev PV := Value × Ev
/-- Where Parts stands: the parts that are done, the one under way. -/
structure PartsSt (W : World) (base : Nat) (v : Value) (done : List (List PV)) (vs : List Value) (vc : Value) (lim : Nat) (cur : List PV) : Prop where
  len : vs.length = done.length
  out : W.ownsRow base 44 1 v (done.length + 1) (vs ++ [vc])
  old : ∀ (i : Nat) (h : i < vs.length) (h' : i < done.length), W.ownsRow base 27 5 vs[i] done[i].length (rowCells done[i]) ∧ ∀ k, vs[i].ownBlock = some k → k < lim
  now : W.ownsRow lim 27 5 vc cur.length (rowCells cur)
  lo : base ≤ lim
  hi : lim ≤ W.heap.size
  chain : Chain W base W.heap.size (done.flatten ++ cur)
theorem PartsSt.no {W W' : World} {base : Nat} {v : Value} {done : List (List PV)} {vs : List Value} {vc : Value} {lim : Nat} {cur : List PV} (h : PartsSt W base v done vs vc lim cur) (hf : Fr No W W') : PartsSt W' base v done vs vc lim cur :=
  ⟨h.len, (Kt.ofFr hf).owns h.out, fun i h1 h2 => ⟨(Kt.ofFr hf).owns (h.old i h1 h2).1, (h.old i h1 h2).2⟩, (Kt.ofFr hf).owns h.now, h.lo, Nat.le_trans h.hi hf.size, (h.chain.kt (Kt3.ofFr hf)).mono hf.size⟩
/-- A crash: the part under way is done. -/
theorem PartsSt.crash {W W' : World} {base : Nat} {v v' : Value} {done : List (List PV)} {vs : List Value} {vc : Value} {lim : Nat} {cur : List PV} (h : PartsSt W base v done vs vc lim cur)
    (k1 : W'.ownsRow base 44 1 v' (done.length + 1 + 1) (vs ++ [vc] ++ [.slice none 0 0])) (k2 : W.grownBy W' v.ownBlock) : PartsSt W' base v' (done ++ [cur]) (vs ++ [vc]) (.slice none 0 0) W'.heap.size [] := by
  have ke := Kt.grown h.out k2 (T := 27) (by decide)
  have k3 : Kt3 W W' := ⟨Kt.grown h.out k2 (by decide), Kt.grown h.out k2 (by decide), Kt.grown h.out k2 (by decide)⟩
  have hsz := k2.size
  refine ⟨by simp [h.len], by simpa using k1, fun i h1 h2 => ?_, World.ownsRow_nil _ _ _ _, Nat.le_trans h.lo (Nat.le_trans h.hi hsz), Nat.le_refl _, ?_⟩
  · rcases Nat.lt_or_ge i vs.length with hi | hi
    · have hi2 : i < done.length := by rw [← h.len]; exact hi
      rw [List.getElem_append_left hi, List.getElem_append_left hi2]
      exact ⟨ke.owns (h.old i hi hi2).1, fun k hk => Nat.lt_of_lt_of_le ((h.old i hi hi2).2 k hk) (Nat.le_trans h.hi hsz)⟩
    · have e1 : i = vs.length := by simp at h1; omega
      subst e1
      have e2 : (vs ++ [vc])[vs.length] = vc := by simp
      have e3 : (done ++ [cur])[vs.length] = cur := by simp [h.len]
      rw [e2, e3]
      exact ⟨ke.owns (owns_base h.now h.lo), fun k hk => Nat.lt_of_lt_of_le (World.ownsRow.lt h.now k hk).2 hsz⟩
  · have : (done ++ [cur]).flatten ++ [] = done.flatten ++ cur := by simp
    rw [this]
    exact (h.chain.kt k3).mono hsz
theorem NewIn.mono {W : World} {lo hi hi' : Nat} {v : Value} {e : Ev} (h : NewIn W lo hi v e) (k : hi ≤ hi') : NewIn W lo hi' v e := by
  obtain ⟨v1, v2, v3, rfl, h1, h2, h3, h4⟩ := h.form
  exact ⟨v1, v2, v3, rfl, h1, h2, h3, fun x hx => Nat.lt_of_lt_of_le (h4 x hx) k⟩
/-- One event more in the part under way. -/
theorem PartsSt.one {W W1 W2 : World} {base G cp : Nat} {done : List (List PV)} {vs : List Value} {vc v' ve : Value} {e : Ev} {lim : Nat} {cur : List PV} (h : PartsSt W base (.slice (some ⟨G, 0, none⟩) (done.length + 1) cp) done vs vc lim cur)
    (hf : Fr No W W1) (hn : NewIn W1 W.heap.size W1.heap.size ve e) (k1 : W2.ownsRow lim 27 5 v' (cur.length + 1) (rowCells cur ++ ve.cells.toList)) (k2 : W1.grownBy W2 vc.ownBlock) :
    PartsSt (W2.setCell ⟨G, done.length, none⟩ v') base (.slice (some ⟨G, 0, none⟩) (done.length + 1) cp) done vs v' lim (cur ++ [(ve, e)]) := by
  have h1 := h.no hf
  have hsz := k2.size
  have o2 := (Kt.grown h1.now k2 (T := 44) (by decide)).owns h1.out
  obtain ⟨o3, _⟩ := o2.stored done.length v'
  obtain ⟨gg, capg, curg, hve, hgg⟩ : ∃ g cap curg, (Value.slice (some ⟨G, 0, none⟩) (done.length + 1) cp) = .slice (some ⟨g, 0, none⟩) (done.length + 1) cap ∧ W2.heap[g]? = some (.cells curg 44 (0, 0)) := by
    rcases o2.2 with ⟨h', _⟩ | ⟨g', cap', cur', h', _, hg, _⟩
    · cases h'
    · exact ⟨g', cap', cur', h', hg⟩
  have hG : gg = G := by
    simp only [Value.slice.injEq, Option.some.injEq, Addr.mk.injEq, and_true, true_and] at hve
    exact hve.1.symm
  subst hG
  have ke : Kt 27 W2 (W2.setCell ⟨gg, done.length, none⟩ v') := Kt.set (p := ⟨gg, done.length, none⟩) hgg (by decide) v'
  have k3 : Kt3 W1 W2 := ⟨Kt.grown h1.now k2 (by decide), Kt.grown h1.now k2 (by decide), Kt.grown h1.now k2 (by decide)⟩
  have k4 : Kt3 W2 (W2.setCell ⟨gg, done.length, none⟩ v') := ⟨Kt.set (p := ⟨gg, done.length, none⟩) hgg (by decide) v', Kt.set (p := ⟨gg, done.length, none⟩) hgg (by decide) v', Kt.set (p := ⟨gg, done.length, none⟩) hgg (by decide) v'⟩
  have hs3 : (W2.setCell ⟨gg, done.length, none⟩ v').heap.size = W2.heap.size := by simp [World.setCell]
  refine ⟨h.len, ?_, fun i a1 a2 => ⟨ke.owns ((h1.old i a1 a2).1.kept k2 ?_), (h1.old i a1 a2).2⟩, ?_, h.lo, by rw [hs3]; exact Nat.le_trans h1.hi hsz, ?_⟩
  · have e1 : (vs ++ [vc]).set done.length v' = vs ++ [v'] := by
      rw [← h.len, List.set_append_right _ _ (Nat.le_refl _)]
      simp
    rw [e1] at o3
    exact o3
  · cases hb : (vs[i]).ownBlock with
    | none => exact .inl rfl
    | some k =>
      refine .inr fun e9 => ?_
      have x1 := (h1.old i a1 a2).2 k hb
      have x2 := (World.ownsRow.lt h1.now k e9.symm).1
      omega
  · have e2 : (cur ++ [(ve, e)]).length = cur.length + 1 := by simp
    rw [e2, rowCells_snoc]
    exact ke.owns k1
  · have c1 : Chain W1 base W.heap.size (done.flatten ++ cur) := h.chain.kt (Kt3.ofFr hf)
    have c2 := c1.snoc hn hf.size
    rw [List.append_assoc] at c2
    rw [hs3]
    exact ((c2.kt k3).kt k4).mono hsz
/-- What Parts answers. -/
structure PartsOut (W : World) (base : Nat) (v : Value) (rows : List (List PV)) (vs : List Value) : Prop where
  len : vs.length = rows.length
  out : W.ownsRow base 44 1 v rows.length vs
  row : ∀ (i : Nat) (h : i < vs.length) (h' : i < rows.length), W.ownsRow base 27 5 vs[i] rows[i].length (rowCells rows[i])
theorem PartsSt.done {W : World} {base : Nat} {v : Value} {done : List (List PV)} {vs : List Value} {vc : Value} {lim : Nat} {cur : List PV} (h : PartsSt W base v done vs vc lim cur) :
    PartsOut W base v (done ++ [cur]) (vs ++ [vc]) ∧ Chain W base W.heap.size (done ++ [cur]).flatten := by
  refine ⟨⟨by simp [h.len], by simpa using h.out, fun i h1 h2 => ?_⟩, by simpa using h.chain⟩
  rcases Nat.lt_or_ge i vs.length with hi | hi
  · have hi2 : i < done.length := by rw [← h.len]; exact hi
    rw [List.getElem_append_left hi, List.getElem_append_left hi2]
    exact (h.old i hi hi2).1
  · have e1 : i = vs.length := by simp at h1; omega
    subst e1
    have e2 : (vs ++ [vc])[vs.length] = vc := by simp
    have e3 : (done ++ [cur])[vs.length] = cur := by simp [h.len]
    rw [e2, e3]
    exact owns_base h.now h.lo
theorem infoPs : (Tryz.prog.info? 44).map (fun i => (i.zero, i.size, i.bytes)) = some (some (.slice none 0 0), 1, 24) := by kernel_rfl
theorem infoEv : (Tryz.prog.info? 27).map (fun i => (i.zero, i.size, i.bytes)) = some (some (.agg #[.int .i64 0, .int .i64 0, .slice none 0 0, .slice none 0 0, .slice none 0 0]), 5, 88) := by kernel_rfl
end Go.Proofs.YtjidpccgjiogbaaGreatDoor
