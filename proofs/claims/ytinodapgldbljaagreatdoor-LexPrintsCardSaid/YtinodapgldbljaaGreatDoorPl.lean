/-
  Contracts at a world behind for the document's telling; slices of tokens.
-/
import Derived.Test.YtinodapgldbljaaGreatDoorBk
import Derived.Test.YtinodapgldbljaaGreatDoorRs
import Derived.Deep.LoopGhost
import Derived.Deep.DeepCutAuto
import Derived.Deep.DeepMust
namespace Go.Proofs.YtinodapgldbljaaGreatDoor
open Go Go.RowKit
theorem rprint_at (a : Option Addr) (cp n : Nat) (l : List PT) (w wx : World) (htab : Lib.TabIs Tryz.prog w "internal/strconv.uint64pow10" .u64 Lib.pow10Tab) (hf : Fr No w wx) (hl : Toks wx a l) (hn : l.length = n) (hbig : n ≤ 1000000000) (hnum : ∀ t ∈ l, t.num < 18446744073709551616) (htx : ∀ t ∈ l, t.text.length ≤ 1000000000)
    (hlen : (tellR true l).length ≤ 1000000000) (s : Bytes) (e : Nat) (hp : print14 l = (s, e)) :
    Calls Tryz.prog 14 #[.slice a n cp] wx fun en w' => en = .returned (.tuple #[.string ⟨s.toArray⟩, .int .i64 e]) ∧ Fr No w w' ∧ Fr No wx w' := by
  subst hn
  refine (rprint_any a cp l wx hl hbig hnum htx (hf.tab htab) hlen).mono ?_
  rintro en w' ⟨he, hf'⟩
  rw [hp] at he
  exact ⟨he, hf.trans_same hf', hf'⟩
theorem rsame_at (a b : Option Addr) (c d n m : Nat) (l k : List PT) (w wx : World) (hf : Fr No w wx) (hl : Toks wx a l) (hk : Toks wx b k) (hn : l.length = n) (hm : k.length = m) (hbl : n ≤ 1000000000) (hbk : m ≤ 1000000000) (r : Bool) (hr : same14 l k = r) :
    Calls Tryz.prog 16 #[.slice a n c, .slice b m d] wx fun en w' => en = .returned (.bool r) ∧ Fr No w w' ∧ Fr No wx w' := by
  subst hn
  subst hm
  refine (rsame_any a b c d l k wx hl hk hbl hbk).mono ?_
  rintro en w' ⟨he, hf'⟩
  rw [hr] at he
  exact ⟨he, hf.trans_same hf', hf'⟩
theorem sameOne_symm (x y : PT) : sameOne x y = sameOne y x := by
  unfold sameOne
  rw [Bool.eq_iff_iff]
  simp only [Bool.and_eq_true, beq_iff_eq]
  constructor
  · rintro ⟨h1, h2, h3⟩; exact ⟨h1.symm, h2.symm, h3.symm⟩
  · rintro ⟨h1, h2, h3⟩; exact ⟨h1.symm, h2.symm, h3.symm⟩
theorem same14_symm : ∀ (l k : List PT), same14 l k = same14 k l
  | [], [] => rfl
  | [], _ :: _ => rfl
  | _ :: _, [] => rfl
  | x :: a, y :: b => by rw [same14, same14, sameOne_symm x y, same14_symm a b]
theorem flatP_at : ∀ (ts : List PT) (j : Nat) (hj : j < ts.length) (i : Nat), i < 4 → (ts.flatMap ptCells)[j * 4 + i]? = (ptCells ts[j])[i]?
  | [], j, hj, _, _ => absurd hj (Nat.not_lt_zero _)
  | t :: ts, 0, _, i, hi => by
    rw [List.flatMap_cons, List.getElem?_append_left (by simp [ptCells]; omega)]; simp
  | t :: ts, j + 1, hj, i, hi => by
    have hl : (ptCells t).length = 4 := rfl
    rw [List.flatMap_cons, List.getElem?_append_right (by rw [hl]; omega), hl, show (j + 1) * 4 + i - 4 = j * 4 + i by omega, flatP_at ts j (by simpa using hj) i hi]
    rfl
theorem flatP_len : ∀ (ts : List PT), (ts.flatMap ptCells).length = ts.length * 4
  | [] => rfl
  | t :: ts => by
    have hl : (ptCells t).length = 4 := rfl
    rw [List.flatMap_cons, List.length_append, flatP_len ts, hl, List.length_cons]; omega
theorem flatP_one (ts : List PT) : ∀ u ∈ ts.flatMap ptCells, u.oneCell' = true := by
  intro u hu
  obtain ⟨t, _, ht⟩ := List.mem_flatMap.1 hu
  simp only [ptCells, List.mem_cons, List.mem_nil_iff, or_false] at ht
  rcases ht with rfl | rfl | rfl | rfl <;> rfl
theorem Toks.news {w : World} {ad : Addr} {l : List PT} (h : Toks w (some ad) l) : ∀ wx, Fr No w wx → ∀ j u, (l.flatMap ptCells)[j]? = some u → wx.cell? (ad.add j) = some u := by
  intro wx hf j u hu
  have hj : j < l.length * 4 := by
    have := (List.getElem?_eq_some_iff.1 hu).1
    rw [flatP_len] at this; exact this
  rcases h.fr hf with h0 | ⟨b, off, ha, hb, hc⟩
  · subst h0; simp at hj
  · have ha' : ad = ⟨b, off, none⟩ := Option.some.inj ha
    subst ha'
    have hq : j / 4 < l.length := by omega
    have e : j = j / 4 * 4 + j % 4 := by omega
    rw [e, flatP_at l (j / 4) hq (j % 4) (Nat.mod_lt _ (by decide))] at hu
    have := hc (j / 4) hq (j % 4) u hu
    have hadd : (⟨b, off, none⟩ : Addr).add j = ⟨b, off + j / 4 * 4 + j % 4, none⟩ := by
      unfold Addr.add
      split
      · rename_i h0; subst h0; rfl
      · rw [show off + j / 4 * 4 + j % 4 = off + j by omega]
    rw [hadd]; exact this
/-- The slice v owns these tokens. -/
def OwnsP (w : World) (base : Nat) (v : Value) (ts : List PT) (n : Nat) : Prop := w.ownsRow base 33 4 v n (ts.flatMap ptCells)
theorem OwnsP.toks {w : World} {base g n c : Nat} {ts : List PT} (h : OwnsP w base (.slice (some ⟨g, 0, none⟩) n c) ts n) (hn : ts.length = n) (hg : g < w.heap.size) : Toks w (some ⟨g, 0, none⟩) ts := by
  refine .inr ⟨g, 0, rfl, hg, ?_⟩
  intro j hj i x hx
  have hi : i < 4 := by have := (List.getElem?_eq_some_iff.1 hx).1; simpa [ptCells] using this
  have h1 := World.ownsRow.cellAt h (j * 4 + i) (by omega)
  rw [Nat.zero_add, h1, flatP_at ts j hj i hi]
  exact hx
theorem own_cap {w : World} {base : Nat} {e : TypeId} {size : Nat} {v : Value} {n : Nat} {xs : List Value} (h : w.ownsRow base e size v n xs) (hn : 0 < n) : ∃ g cap, v = .slice (some ⟨g, 0, none⟩) n cap ∧ n ≤ cap ∧ cap ≤ maxLen ∧ g < w.heap.size := by
  rcases h.2 with ⟨_, h0⟩ | ⟨g, cap, cur, hv, hb, hg, hc, hm, _⟩
  · omega
  · exact ⟨g, cap, hv, hc, hm, lt_of_block hg⟩
theorem Toks.take {w : World} {a : Option Addr} {l k : List PT} (h : Toks w a (l ++ k)) : Toks w a l := by
  rcases h with h | ⟨b, off, ha, hb, hc⟩
  · exact .inl (List.append_eq_nil_iff.1 h).1
  · refine .inr ⟨b, off, ha, hb, fun j hj i v hv => hc j (by rw [List.length_append]; omega) i v ?_⟩
    rw [List.getElem_append_left hj]; exact hv
end Go.Proofs.YtinodapgldbljaaGreatDoor
