/-
  A slice of tokens that comes in: its tokens.
-/
import Derived.Test.YtinodapgldbljaaGreatDoorTw
import Derived.Deep.Slices
import Derived.Deep.Fields
import Derived.Carry
namespace Go.Proofs.YtinodapgldbljaaGreatDoor
open Go Go.ChangeShapes Go.WideShapes Go.ChangeAt Go.ChangeMaps Go.RowKit Go.Deep
theorem cellsTok : Tryz.prog.cellsOf 33 = 4 := by kernel_rfl
theorem cellsKind : Tryz.prog.cellsOf 30 = 1 := by kernel_rfl
theorem cellsInt : Tryz.prog.cellsOf 3 = 1 := by kernel_rfl
theorem laidOut : laidOutB Tryz.prog = true := by kernel_rfl
theorem addr_add2 (a : Addr) (i j : Nat) : (a.add i).add j = a.add (i + j) := by
  unfold Addr.add
  by_cases hi : i = 0
  · subst hi; simp
  · by_cases hj : j = 0
    · subst hj; simp [hi]
    · simp [hi, hj]; omega
set_option maxRecDepth 100000 in
/-- A slice of tokens that comes in: its tokens. -/
theorem open_toks {H : Type} {enc : TypeId × Value → H} {w : World} {sp : Nat → Bool} {held : Bool} {v : Value} {d : DataW H} {ps : List MemPlace} (h : DataW.Trod enc Tryz.prog w 0 sp held 23 v d ps) (hv : v.cells = #[v]) :
    ∃ a n c l, v = .slice a n c ∧ l.length = n ∧ Toks w a l ∧ (∀ t ∈ l, t.num < 18446744073709551616) ∧ n ≤ maxLen := by
  obtain ⟨fuel, hf⟩ := h
  rw [hv] at hf
  rcases open_slice Tryz.underlying23 hf with ⟨h0, _⟩ | ⟨a, len, cap, m, n, D, Pl, hcs, hb, hl, hm, hmm, hx, hi⟩
  · have h0 : v = .slice none 0 0 := by simpa using h0
    exact ⟨none, 0, 0, [], h0, rfl, .inl rfl, fun t ht => (List.not_mem_nil ht).elim, Nat.zero_le _⟩
  · have hv' : v = .slice (some a) len cap := by simpa using hcs
    have hlm : len ≤ m := by rw [hmm]; split <;> omega
    have key : ∀ i, i < len → ∃ t : PT, t.num < 18446744073709551616 ∧ ∀ j x, (ptCells t)[j]? = some x → w.cell? (a.add (i * 4 + j)) = some x := by
      intro i hil
      obtain ⟨cs', hc, ht⟩ := hi i (by omega)
      rw [cellsTok] at hc
      obtain ⟨_, hcl, hat⟩ := World.cells?_some hc
      obtain ⟨ys, n', _, _, _, hyl, hfd⟩ := DataW.trod_struct Tryz.underlying33 ht
      match cs', hcl with
      | [c0, c1, c2, c3], _ =>
        have hs : ∀ j, j < 4 → ∃ y, ys[j]? = some y := fun j hj => ⟨_, List.getElem?_eq_getElem (by rw [hyl]; exact hj)⟩
        obtain ⟨y0, e0⟩ := hs 0 (by decide)
        obtain ⟨y1, e1⟩ := hs 1 (by decide)
        obtain ⟨y2, e2⟩ := hs 2 (by decide)
        obtain ⟨y3, e3⟩ := hs 3 (by decide)
        have h0 : DataW.trod enc Tryz.prog w 0 sp held n' 30 [c0] = some y0 := by
          rw [← e0, ← hfd 0 _ rfl]
          show _ = DataW.trod enc Tryz.prog w 0 sp held n' 30 (([c0, c1, c2, c3].drop 0).take (Tryz.prog.cellsOf 30))
          rw [cellsKind]; rfl
        have h1 : DataW.trod enc Tryz.prog w 0 sp held n' 3 [c1] = some y1 := by
          rw [← e1, ← hfd 1 _ rfl]
          show _ = DataW.trod enc Tryz.prog w 0 sp held n' 3 (([c0, c1, c2, c3].drop 1).take (Tryz.prog.cellsOf 3))
          rw [cellsInt]; rfl
        have h2 : DataW.trod enc Tryz.prog w 0 sp held n' 9 [c2] = some y2 := by
          rw [← e2, ← hfd 2 _ rfl]
          show _ = DataW.trod enc Tryz.prog w 0 sp held n' 9 (([c0, c1, c2, c3].drop 2).take (Tryz.prog.cellsOf 9))
          rw [cellsStr]; rfl
        have h3 : DataW.trod enc Tryz.prog w 0 sp held n' 31 [c3] = some y3 := by
          rw [← e3, ← hfd 3 _ rfl]
          show _ = DataW.trod enc Tryz.prog w 0 sp held n' 31 (([c0, c1, c2, c3].drop 3).take (Tryz.prog.cellsOf 31))
          rw [cellsU64]; rfl
        obtain ⟨k, hk, _, _⟩ := DataW.trod_int Tryz.underlying30 h0
        obtain ⟨p, hp, _, _⟩ := DataW.trod_int Tryz.underlying3 h1
        obtain ⟨s, hs', _, _⟩ := DataW.trod_string Tryz.underlying9 h2
        obtain ⟨x, hx', _, hwf⟩ := DataW.trod_int Tryz.underlying31 h3
        simp only [List.cons.injEq, and_true] at hk hp hs' hx'
        subst hk hp hs' hx'
        simp only [Lit.wf, Bool.and_eq_true, decide_eq_true_eq] at hwf
        have hlo : 0 ≤ x ∧ x < 18446744073709551616 := by
          obtain ⟨w1, w2⟩ := hwf
          simp [IntKind.min, IntKind.max, IntKind.signed, IntKind.bits] at w1 w2
          omega
        refine ⟨⟨k, p, s.data.toList, x.toNat⟩, by show x.toNat < _; omega, ?_⟩
        intro j z hz
        have hj : j < 4 := by have := (List.getElem?_eq_some_iff.1 hz).1; simpa [ptCells] using this
        have hc4 := hat j hj
        rw [addr_add2] at hc4
        rw [hc4, ← hz]
        have hxn : ((x.toNat : Nat) : Int) = x := by omega
        match j, hj with
        | 0, _ => rfl
        | 1, _ => rfl
        | 2, _ => rfl
        | 3, _ => show some (Value.int .u64 x) = some (Value.int .u64 ((x.toNat : Nat) : Int)); rw [hxn]
    obtain ⟨l, hl1, hl2⟩ : ∃ l : List PT, l.length = len ∧ ∀ i (hi : i < l.length), l[i].num < 18446744073709551616 ∧ ∀ j x, (ptCells l[i])[j]? = some x → w.cell? (a.add (i * 4 + j)) = some x := by
      refine ⟨(List.range len).attach.map (fun i => Classical.choose (key i.1 (List.mem_range.1 i.2))), by simp, ?_⟩
      intro i hi
      have hi' : i < len := by simpa using hi
      have := Classical.choose_spec (key i hi')
      simpa using this
    refine ⟨some a, len, cap, l, hv', hl1, ?_, ?_, Nat.le_trans hl hm⟩
    · by_cases h0 : l = []
      · exact .inl h0
      · have hpos : 0 < l.length := List.length_pos_iff.2 h0
        obtain ⟨ab, ao, asp⟩ := a
        have hc0 := (hl2 0 hpos).2 0 _ rfl
        have hspot : asp = none := by
          unfold World.cell? Addr.add at hc0
          simp only [Nat.zero_mul, Nat.add_zero, if_true] at hc0
          split at hc0
          · cases asp with
            | none => rfl
            | some q => simp at hc0
          · cases hc0
        subst hspot
        refine .inr ⟨ab, ao, rfl, ?_, ?_⟩
        · have := block_lt_of_cell hc0
          simpa [Addr.add] using this
        · intro j hj i x hx
          have := (hl2 j hj).2 i x hx
          have hadd : (⟨ab, ao, none⟩ : Addr).add (j * 4 + i) = ⟨ab, ao + j * 4 + i, none⟩ := by
            unfold Addr.add
            split
            · rename_i h0; congr 1; omega
            · rw [Nat.add_assoc]
          rw [hadd] at this
          exact this
    · intro t ht
      obtain ⟨i, hi, rfl⟩ := List.mem_iff_getElem.1 ht
      exact (hl2 i hi).1
end Go.Proofs.YtinodapgldbljaaGreatDoor
