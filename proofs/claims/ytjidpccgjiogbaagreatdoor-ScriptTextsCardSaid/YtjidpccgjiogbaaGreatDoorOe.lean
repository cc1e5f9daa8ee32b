/-
  Arguments that come in: events.
-/
import Derived.Test.YtjidpccgjiogbaaGreatDoorTw
import Derived.Test.YtjidpccgjiogbaaGreatDoorYi
import Derived.Deep.Slices
import Derived.Deep.Fields
import Derived.Carry
namespace Go.Proofs.YtjidpccgjiogbaaGreatDoor
open Go Go.ChangeShapes Go.WideShapes Go.ChangeAt Go.ChangeMaps Go.RowKit Go.Deep
theorem cellsEvent : Tryz.prog.cellsOf 27 = 5 := by kernel_rfl
theorem cellsFate : Tryz.prog.cellsOf 70 = 2 := by kernel_rfl
theorem cellsInt : Tryz.prog.cellsOf 3 = 1 := by kernel_rfl
theorem cellsKind : Tryz.prog.cellsOf 22 = 1 := by kernel_rfl
theorem cellsFK : Tryz.prog.cellsOf 68 = 1 := by kernel_rfl
theorem cellsU8 : Tryz.prog.cellsOf 5 = 1 := by kernel_rfl
theorem cellsBs : Tryz.prog.cellsOf 23 = 1 := by kernel_rfl
theorem cellsFs : Tryz.prog.cellsOf 24 = 1 := by kernel_rfl
theorem cellsPs : Tryz.prog.cellsOf 25 = 1 := by kernel_rfl
theorem addr_add2 (a : Addr) (i j : Nat) : (a.add i).add j = a.add (i + j) := by
  unfold Addr.add
  by_cases hi : i = 0
  · subst hi; simp
  · by_cases hj : j = 0
    · subst hj; simp [hi]
    · simp [hi, hj]; omega
theorem cells_of_add {w : World} {a : Addr} {cs : List Value} (h : ∀ j x, cs[j]? = some x → w.cell? (a.add j) = some x) : CellsAt w (some a) cs := by
  by_cases h0 : cs = []
  · exact .inl h0
  · have hpos : 0 < cs.length := List.length_pos_iff.2 h0
    obtain ⟨ab, ao, asp⟩ := a
    have hc0 := h 0 _ (List.getElem?_eq_getElem hpos)
    have hspot : asp = none := by
      unfold World.cell? Addr.add at hc0
      simp only [if_true] at hc0
      split at hc0
      · cases asp with
        | none => rfl
        | some q => simp at hc0
      · cases hc0
    subst hspot
    refine .inr ⟨ab, ao, rfl, ?_, fun j v hj => ?_⟩
    · have := block_lt_of_cell hc0
      simpa [Addr.add] using this
    · have h1 := h j v hj
      have hadd : (⟨ab, ao, none⟩ : Addr).add j = ⟨ab, ao + j, none⟩ := by
        unfold Addr.add
        split
        · rename_i e; subst e; rfl
        · rfl
      rw [hadd] at h1
      exact h1
theorem choose_list {α : Type} (n : Nat) (P : Nat → α → Prop) (h : ∀ i, i < n → ∃ x, P i x) : ∃ l : List α, l.length = n ∧ ∀ i (hi : i < l.length), P i l[i] := by
  induction n with
  | zero => exact ⟨[], rfl, fun i hi => absurd hi (Nat.not_lt_zero _)⟩
  | succ n ih =>
    obtain ⟨l, h1, h2⟩ := ih (fun i hi => h i (by omega))
    obtain ⟨x, hx⟩ := h n (by omega)
    refine ⟨l ++ [x], by simp [h1], fun i hi => ?_⟩
    rcases Nat.lt_or_ge i l.length with hl | hl
    · rw [List.getElem_append_left hl]; exact h2 i hl
    · have e : i = l.length := by simp at hi; omega
      subst e
      have e2 : (l ++ [x])[l.length] = x := by simp
      rw [e2, h1]
      exact hx
set_option maxRecDepth 100000 in
theorem open_bytes {H : Type} {enc : TypeId × Value → H} {w : World} {sp : Nat → Bool} {held : Bool} {fuel : Nat} {v : Value} {d : DataW H × List MemPlace} (hf : DataW.trod enc Tryz.prog w 0 sp held fuel 23 [v] = some d) :
    ∃ a n c l, v = .slice a n c ∧ l.length = n ∧ CellsAt w a (byteCs l) := by
  rcases open_slice Tryz.underlying23 hf with ⟨h0, _⟩ | ⟨a, len, cap, m, n, D, Pl, hcs, hb, hl, hm, hmm, hx, hi⟩
  · have h0 : v = .slice none 0 0 := by simpa using h0
    exact ⟨none, 0, 0, [], h0, rfl, .inl rfl⟩
  · have hv' : v = .slice (some a) len cap := by simpa using hcs
    have hlm : len ≤ m := by rw [hmm]; split <;> omega
    obtain ⟨l, h1, h2⟩ := choose_list len (fun i (x : UInt8) => w.cell? (a.add i) = some (.int .u8 x.toNat)) (fun i hil => by
      obtain ⟨cs', hc, ht⟩ := hi i (by omega)
      rw [cellsU8] at hc
      obtain ⟨_, hcl, hat⟩ := World.cells?_some hc
      match cs', hcl with
      | [c0], _ =>
        obtain ⟨x, hx, _, hwf⟩ := DataW.trod_int Tryz.underlying5 ht
        simp only [List.cons.injEq, and_true] at hx
        subst hx
        simp only [Lit.wf, Bool.and_eq_true, decide_eq_true_eq] at hwf
        have hlo : 0 ≤ x ∧ x < 256 := by
          obtain ⟨w1, w2⟩ := hwf
          simp [IntKind.min, IntKind.max, IntKind.signed, IntKind.bits] at w1 w2
          omega
        refine ⟨UInt8.ofNat x.toNat, ?_⟩
        have hc0 := hat 0 (by decide)
        rw [addr_add2, Nat.mul_one, Nat.add_zero] at hc0
        rw [hc0]
        have e : (UInt8.ofNat x.toNat).toNat = x.toNat := by simp; omega
        rw [e]
        simp
        omega)
    refine ⟨some a, len, cap, l, hv', h1, cells_of_add (fun j x hj => ?_)⟩
    have hj2 : j < l.length := by have := (List.getElem?_eq_some_iff.1 hj).1; simpa [byteCs] using this
    rw [h2 j hj2]
    simpa [byteCs, hj2] using hj
set_option maxRecDepth 100000 in
theorem open_ints {H : Type} {enc : TypeId × Value → H} {w : World} {sp : Nat → Bool} {held : Bool} {fuel : Nat} {v : Value} {d : DataW H × List MemPlace} (hf : DataW.trod enc Tryz.prog w 0 sp held fuel 25 [v] = some d) :
    ∃ a n c l, v = .slice a n c ∧ l.length = n ∧ CellsAt w a (intCs l) ∧ ∀ x ∈ l, i64 x := by
  rcases open_slice Tryz.underlying25 hf with ⟨h0, _⟩ | ⟨a, len, cap, m, n, D, Pl, hcs, hb, hl, hm, hmm, hx, hi⟩
  · have h0 : v = .slice none 0 0 := by simpa using h0
    exact ⟨none, 0, 0, [], h0, rfl, .inl rfl, fun _ h => absurd h (List.not_mem_nil)⟩
  · have hv' : v = .slice (some a) len cap := by simpa using hcs
    have hlm : len ≤ m := by rw [hmm]; split <;> omega
    obtain ⟨l, h1, h2⟩ := choose_list len (fun i (x : Int) => w.cell? (a.add i) = some (.int .i64 x) ∧ i64 x) (fun i hil => by
      obtain ⟨cs', hc, ht⟩ := hi i (by omega)
      rw [cellsInt] at hc
      obtain ⟨_, hcl, hat⟩ := World.cells?_some hc
      match cs', hcl with
      | [c0], _ =>
        obtain ⟨x, hx, _, hwf⟩ := DataW.trod_int Tryz.underlying3 ht
        simp only [List.cons.injEq, and_true] at hx
        subst hx
        simp only [Lit.wf, Bool.and_eq_true, decide_eq_true_eq] at hwf
        have hc0 := hat 0 (by decide)
        rw [addr_add2, Nat.mul_one, Nat.add_zero] at hc0
        refine ⟨x, hc0, ?_⟩
        obtain ⟨w1, w2⟩ := hwf
        simp [IntKind.min, IntKind.max, IntKind.signed, IntKind.bits] at w1 w2
        exact ⟨by omega, by omega⟩)
    refine ⟨some a, len, cap, l, hv', h1, cells_of_add (fun j x hj => ?_), fun x hx => ?_⟩
    · have hj2 : j < l.length := by have := (List.getElem?_eq_some_iff.1 hj).1; simpa [intCs] using this
      rw [(h2 j hj2).1]
      simpa [intCs, hj2] using hj
    · obtain ⟨j, hj, rfl⟩ := List.mem_iff_getElem.1 hx
      exact (h2 j hj).2
set_option maxRecDepth 100000 in
theorem open_fates {H : Type} {enc : TypeId × Value → H} {w : World} {sp : Nat → Bool} {held : Bool} {fuel : Nat} {v : Value} {d : DataW H × List MemPlace} (hf : DataW.trod enc Tryz.prog w 0 sp held fuel 24 [v] = some d) :
    ∃ a n c l, v = .slice a n c ∧ l.length = n ∧ CellsAt w a (fateCs l) ∧ ∀ x ∈ l, i64 x.2 := by
  rcases open_slice Tryz.underlying24 hf with ⟨h0, _⟩ | ⟨a, len, cap, m, n, D, Pl, hcs, hb, hl, hm, hmm, hx, hi⟩
  · have h0 : v = .slice none 0 0 := by simpa using h0
    exact ⟨none, 0, 0, [], h0, rfl, .inl rfl, fun _ h => absurd h (List.not_mem_nil)⟩
  · have hv' : v = .slice (some a) len cap := by simpa using hcs
    have hlm : len ≤ m := by rw [hmm]; split <;> omega
    obtain ⟨l, h1, h2⟩ := choose_list len (fun i (x : Int × Int) => w.cell? (a.add (i * 2)) = some (.int .i64 x.1) ∧ w.cell? (a.add (i * 2 + 1)) = some (.int .i64 x.2) ∧ i64 x.2) (fun i hil => by
      obtain ⟨cs', hc, ht⟩ := hi i (by omega)
      rw [cellsFate] at hc
      obtain ⟨_, hcl, hat⟩ := World.cells?_some hc
      obtain ⟨ys, n', _, _, _, hyl, hfd⟩ := DataW.trod_struct Tryz.underlying70 ht
      match cs', hcl with
      | [c0, c1], _ =>
        have hs : ∀ j, j < 2 → ∃ y, ys[j]? = some y := fun j hj => ⟨_, List.getElem?_eq_getElem (by rw [hyl]; exact hj)⟩
        obtain ⟨y0, e0⟩ := hs 0 (by decide)
        obtain ⟨y1, e1⟩ := hs 1 (by decide)
        have h0 : DataW.trod enc Tryz.prog w 0 sp held n' 68 [c0] = some y0 := by
          rw [← e0, ← hfd 0 _ rfl]
          show _ = DataW.trod enc Tryz.prog w 0 sp held n' 68 (([c0, c1].drop 0).take (Tryz.prog.cellsOf 68))
          rw [cellsFK]; rfl
        have h1 : DataW.trod enc Tryz.prog w 0 sp held n' 3 [c1] = some y1 := by
          rw [← e1, ← hfd 1 _ rfl]
          show _ = DataW.trod enc Tryz.prog w 0 sp held n' 3 (([c0, c1].drop 1).take (Tryz.prog.cellsOf 3))
          rw [cellsInt]; rfl
        obtain ⟨k, hk, _, _⟩ := DataW.trod_int Tryz.underlying68 h0
        obtain ⟨q, hq, _, hwf⟩ := DataW.trod_int Tryz.underlying3 h1
        simp only [List.cons.injEq, and_true] at hk hq
        subst hk hq
        simp only [Lit.wf, Bool.and_eq_true, decide_eq_true_eq] at hwf
        have hc0 := hat 0 (by decide)
        have hc1 := hat 1 (by decide)
        rw [addr_add2, Nat.add_zero] at hc0
        rw [addr_add2] at hc1
        refine ⟨(k, q), hc0, hc1, ?_⟩
        obtain ⟨w1, w2⟩ := hwf
        simp [IntKind.min, IntKind.max, IntKind.signed, IntKind.bits] at w1 w2
        exact ⟨by omega, by omega⟩)
    refine ⟨some a, len, cap, l, hv', h1, cells_of_add (fun j x hj => ?_), fun x hx => ?_⟩
    · have hj2 : j < l.length * 2 := by have := (List.getElem?_eq_some_iff.1 hj).1; rw [fateCs_len] at this; exact this
      have hq : j / 2 < l.length := by omega
      obtain ⟨f1, f2⟩ := fateCs_at l (j / 2) hq
      obtain ⟨g1, g2, _⟩ := h2 (j / 2) hq
      rcases Nat.mod_two_eq_zero_or_one j with hm2 | hm2
      · have ej : j / 2 * 2 = j := by omega
        rw [ej] at f1 g1
        rw [g1, ← f1]; exact hj
      · have ej : j / 2 * 2 + 1 = j := by omega
        rw [ej] at f2 g2
        rw [g2, ← f2]; exact hj
    · obtain ⟨j, hj, rfl⟩ := List.mem_iff_getElem.1 hx
      exact (h2 j hj).2.2
set_option maxRecDepth 100000 in
theorem shaped_max {W : World} (h : W.ShapedOpen Tryz.prog) : ∃ m, W.cell? ⟨0, 0, none⟩ = some (.int .i64 m) := by
  have hg : Nat.ble 1 Tryz.prog.globals.size = true := by kernel_rfl
  obtain ⟨cs, h1, h2, h3⟩ := h.1 0 #[.int .i64 0] 3 (Nat.le_of_ble_eq_true hg) (by kernel_rfl)
  obtain ⟨ts, e1, _, e3⟩ := h3 (by kernel_rfl)
  have hs : cs.size = 1 := h2
  have hts : Tryz.prog.cellTypes Tryz.prog.depth 3 = some [3] := by kernel_rfl
  rw [hts] at e1
  cases e1
  obtain ⟨u, hu, hok⟩ := e3 0 cs[0] (by simp [hs])
  obtain rfl : 3 = u := by simpa using hu
  have hcell : W.cell? ⟨0, 0, none⟩ = some cs[0] := by simp [World.cell?, h1, hs]
  obtain ⟨v, hv⟩ : ∃ v, cs[0] = v := ⟨_, rfl⟩
  rw [hv] at hok hcell
  cases v with
  | int k n =>
    simp only [Cell.ok, Tryz.underlying3] at hok
    obtain ⟨rfl, _⟩ := hok
    exact ⟨n, hcell⟩
  | _ => simp [Cell.ok, Tryz.underlying3] at hok
set_option maxRecDepth 100000 in
/-- A slice of events that comes in: its events. -/
theorem open_events {H : Type} {enc : TypeId × Value → H} {w : World} {sp : Nat → Bool} {held : Bool} {v : Value} {d : DataW H} {ps : List MemPlace} (h : DataW.Trod enc Tryz.prog w 0 sp held 44 v d ps) (hv : v.cells = #[v]) :
    ∃ a n c es, v = .slice a n c ∧ es.length = n ∧ EvsAt w a es ∧ ∀ e ∈ es, e.nums := by
  obtain ⟨fuel, hf⟩ := h
  rw [hv] at hf
  rcases open_slice Tryz.underlying44 hf with ⟨h0, _⟩ | ⟨a, len, cap, m, n, D, Pl, hcs, hb, hl, hm, hmm, hx, hi⟩
  · have h0 : v = .slice none 0 0 := by simpa using h0
    exact ⟨none, 0, 0, [], h0, rfl, .inl rfl, fun _ h => absurd h (List.not_mem_nil)⟩
  · have hv' : v = .slice (some a) len cap := by simpa using hcs
    have hlm : len ≤ m := by rw [hmm]; split <;> omega
    obtain ⟨es, q1, q2⟩ := choose_list len (fun i (e : Ev) => ∃ a1 c1 a2 c2 a3 c3, (w.cell? (a.add (i * 5)) = some (.int .i64 e.kind) ∧ w.cell? (a.add (i * 5 + 1)) = some (.int .i64 e.conn) ∧ w.cell? (a.add (i * 5 + 2)) = some (.slice a1 e.bytes.length c1) ∧ w.cell? (a.add (i * 5 + 3)) = some (.slice a2 e.fates.length c2) ∧ w.cell? (a.add (i * 5 + 4)) = some (.slice a3 e.picks.length c3)) ∧
        CellsAt w a1 (byteCs e.bytes) ∧ CellsAt w a2 (fateCs e.fates) ∧ CellsAt w a3 (intCs e.picks) ∧ e.nums) (fun i hil => by
      obtain ⟨cs', hc, ht⟩ := hi i (by omega)
      rw [cellsEvent] at hc
      obtain ⟨_, hcl, hat⟩ := World.cells?_some hc
      obtain ⟨ys, n', _, _, _, hyl, hfd⟩ := DataW.trod_struct Tryz.underlying27 ht
      match cs', hcl with
      | [c0, c1, c2, c3, c4], _ =>
        have hs : ∀ j, j < 5 → ∃ y, ys[j]? = some y := fun j hj => ⟨_, List.getElem?_eq_getElem (by rw [hyl]; exact hj)⟩
        obtain ⟨y0, e0⟩ := hs 0 (by decide)
        have h0 : DataW.trod enc Tryz.prog w 0 sp held n' 22 [c0] = some y0 := by
          rw [← e0, ← hfd 0 _ rfl]
          show _ = DataW.trod enc Tryz.prog w 0 sp held n' 22 (([c0, c1, c2, c3, c4].drop 0).take (Tryz.prog.cellsOf 22))
          rw [cellsKind]; rfl
        obtain ⟨y1, e1⟩ := hs 1 (by decide)
        have h1 : DataW.trod enc Tryz.prog w 0 sp held n' 3 [c1] = some y1 := by
          rw [← e1, ← hfd 1 _ rfl]
          show _ = DataW.trod enc Tryz.prog w 0 sp held n' 3 (([c0, c1, c2, c3, c4].drop 1).take (Tryz.prog.cellsOf 3))
          rw [cellsInt]; rfl
        obtain ⟨y2, e2⟩ := hs 2 (by decide)
        have h2 : DataW.trod enc Tryz.prog w 0 sp held n' 23 [c2] = some y2 := by
          rw [← e2, ← hfd 2 _ rfl]
          show _ = DataW.trod enc Tryz.prog w 0 sp held n' 23 (([c0, c1, c2, c3, c4].drop 2).take (Tryz.prog.cellsOf 23))
          rw [cellsBs]; rfl
        obtain ⟨y3, e3⟩ := hs 3 (by decide)
        have h3 : DataW.trod enc Tryz.prog w 0 sp held n' 24 [c3] = some y3 := by
          rw [← e3, ← hfd 3 _ rfl]
          show _ = DataW.trod enc Tryz.prog w 0 sp held n' 24 (([c0, c1, c2, c3, c4].drop 3).take (Tryz.prog.cellsOf 24))
          rw [cellsFs]; rfl
        obtain ⟨y4, e4⟩ := hs 4 (by decide)
        have h4 : DataW.trod enc Tryz.prog w 0 sp held n' 25 [c4] = some y4 := by
          rw [← e4, ← hfd 4 _ rfl]
          show _ = DataW.trod enc Tryz.prog w 0 sp held n' 25 (([c0, c1, c2, c3, c4].drop 4).take (Tryz.prog.cellsOf 25))
          rw [cellsPs]; rfl
        obtain ⟨k, hk, _, _⟩ := DataW.trod_int Tryz.underlying22 h0
        obtain ⟨q, hq, _, hwf⟩ := DataW.trod_int Tryz.underlying3 h1
        simp only [List.cons.injEq, and_true] at hk hq
        subst hk hq
        simp only [Lit.wf, Bool.and_eq_true, decide_eq_true_eq] at hwf
        have hq64 : i64 q := by
          obtain ⟨w1, w2⟩ := hwf
          simp [IntKind.min, IntKind.max, IntKind.signed, IntKind.bits] at w1 w2
          exact ⟨by omega, by omega⟩
        obtain ⟨a1, n1, c1, l1, rfl, rfl, x1⟩ := open_bytes h2
        obtain ⟨a2, n2, c2, l2, rfl, rfl, x2, z2⟩ := open_fates h3
        obtain ⟨a3, n3, c3, l3, rfl, rfl, x3, z3⟩ := open_ints h4
        have hc0 := hat 0 (by decide)
        have hc1 := hat 1 (by decide)
        have hc2 := hat 2 (by decide)
        have hc3 := hat 3 (by decide)
        have hc4 := hat 4 (by decide)
        rw [addr_add2, Nat.add_zero] at hc0
        rw [addr_add2] at hc1 hc2 hc3 hc4
        exact ⟨⟨k, q, l1, l2, l3⟩, a1, c1, a2, c2, a3, c3, ⟨hc0, hc1, hc2, hc3, hc4⟩, x1, x2, x3, ⟨hq64, z2, z3⟩⟩)
    refine ⟨some a, len, cap, es, hv', q1, ?_, fun e he => ?_⟩
    · by_cases h0 : es = []
      · exact .inl h0
      · have hpos : 0 < es.length := List.length_pos_iff.2 h0
        obtain ⟨ab, ao, asp⟩ := a
        obtain ⟨_, _, _, _, _, _, ⟨hc0, _⟩, _⟩ := q2 0 hpos
        have hspot : asp = none := by
          unfold World.cell? Addr.add at hc0
          simp only [Nat.zero_mul, if_true] at hc0
          split at hc0
          · cases asp with
            | none => rfl
            | some q => simp at hc0
          · cases hc0
        subst hspot
        refine .inr ⟨ab, ao, rfl, ?_, fun i hi' => ?_⟩
        · have := block_lt_of_cell hc0
          simpa [Addr.add] using this
        · obtain ⟨a1, c1, a2, c2, a3, c3, ⟨p0, p1, p2, p3, p4⟩, x1, x2, x3, _⟩ := q2 i hi'
          have hadd : ∀ j, (⟨ab, ao, none⟩ : Addr).add j = ⟨ab, ao + j, none⟩ := fun j => by
            unfold Addr.add
            split
            · rename_i e; subst e; rfl
            · rfl
          rw [hadd] at p0 p1 p2 p3 p4
          exact ⟨a1, c1, a2, c2, a3, c3, ⟨p0, p1, p2, p3, p4⟩, x1, x2, x3⟩
    · obtain ⟨j, hj, rfl⟩ := List.mem_iff_getElem.1 he
      obtain ⟨_, _, _, _, _, _, _, _, _, _, hn⟩ := q2 j hj
      exact hn
end Go.Proofs.YtjidpccgjiogbaaGreatDoor
