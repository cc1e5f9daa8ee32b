/-
  Lex, Print, Same and works at a world behind; bounds.
-/
import Derived.Test.YtbdheihjnkfpiaaGreatDoorWw
import Derived.Test.YtbdheihjnkfpiaaGreatDoorVs
namespace Go.Proofs.YtbdheihjnkfpiaaGreatDoor
open Go Go.RowKit
theorem told_len (t : PT) (hn : t.num < 18446744073709551616) : (told t).length ≤ 4 * t.text.length + 20 := by
  unfold told
  split
  · have := decDigits_len hn; omega
  · split
    · have := quote_len t.text; omega
    · omega
theorem tellR_len (l : List PT) (m : Nat) (hn : ∀ t ∈ l, t.num < 18446744073709551616) (ht : ∀ t ∈ l, t.text.length ≤ m) : ∀ b, (tellR b l).length ≤ l.length * (4 * m + 21) := by
  induction l with
  | nil => intro b; simp [tellR]
  | cons t r ih =>
    intro b
    have h1 := told_len t (hn t (List.mem_cons_self ..))
    have h2 := ht t (List.mem_cons_self ..)
    have h3 := ih (fun t h => hn t (List.mem_cons_of_mem _ h)) (fun t h => ht t (List.mem_cons_of_mem _ h)) false
    rw [tellR, List.length_append, List.length_cons, Nat.add_mul, Nat.one_mul]
    cases b
    · simp only [Bool.false_eq_true, if_false, List.length_cons]; omega
    · simp only [if_true]; omega
theorem print14_err {l : List PT} (h : (print14 l).2 ≠ 0) : (print14 l).1 = [] := by
  unfold print14 at h ⊢
  split
  · rfl
  · rename_i h1
    rw [if_neg h1] at h
    split
    · rfl
    · rename_i h2
      rw [if_neg h2] at h
      exact absurd rfl h
theorem lex14_err {s : Bytes} (h : (lex14 s).2.2 ≠ 0) : (lex14 s).1 = [] := by
  unfold lex14 at h ⊢
  split
  · rename_i h1; rw [if_pos h1] at h; exact absurd rfl h
  · rfl
theorem lexFrom_len : ∀ (m : Nat) (l : Bytes), l.length ≤ m → ∀ p, (lexFrom p l).1.length ≤ l.length := by
  intro m
  induction m with
  | zero =>
    intro l hl p
    have : l = [] := List.eq_nil_of_length_eq_zero (by omega)
    subst this
    rw [lexFrom_nil]; exact Nat.le_refl _
  | succ m ih =>
    intro l hl p
    cases hg : (gapLen l).2 with
    | false => rw [lexFrom_bad hg]; exact Nat.zero_le _
    | true =>
      rw [lexFrom_ok hg]
      unfold lexAt
      by_cases hn : l.drop (gapLen l).1 = []
      · rw [if_pos hn]; exact Nat.zero_le _
      · rw [if_neg hn]
        cases ht : tokAt (l.drop (gapLen l).1) with
        | error er => exact Nat.zero_le _
        | ok r =>
          obtain ⟨k, t, x, n⟩ := r
          dsimp only
          have h1 := (tokAt_pos ht).1
          have h2 := tokAt_len ht
          have hp : 0 < (l.drop (gapLen l).1).length := List.length_pos_iff.2 hn
          rw [List.length_drop] at h2 hp
          have hI := ih ((l.drop (gapLen l).1).drop n) (by rw [List.length_drop, List.length_drop]; omega) (p + (gapLen l).1 + n)
          rw [List.length_drop, List.length_drop] at hI
          rw [List.length_cons]; omega
theorem lex14_facts {s : Bytes} {k : List Tok} {p e : Nat} (h : lex14 s = (k, p, e)) : k.length ≤ s.length ∧ ∀ t ∈ k.map Tok.pt, t.num < 18446744073709551616 := by
  by_cases hl : maxText < s.length
  · rw [lex14_long hl] at h; cases h
    exact ⟨Nat.zero_le _, fun t ht => by cases ht⟩
  · have h1 := lexFrom_len _ s (Nat.le_refl _) 0
    have h2 := (lexFrom_may _ s (Nat.le_refl _) 0).1
    cases hx : lexFrom 0 s with
    | mk l o =>
      rw [hx] at h1 h2
      cases o with
      | none =>
        rw [lex14_ok hl hx] at h; cases h
        refine ⟨h1, fun t ht => ?_⟩
        obtain ⟨t', ht', rfl⟩ := List.mem_map.1 ht
        exact (h2 t' ht').2
      | some pe =>
        obtain ⟨p', e'⟩ := pe
        rw [lex14_bad hl hx] at h; cases h
        exact ⟨Nat.zero_le _, fun t ht => by cases ht⟩
/-- Lex at a world behind w. -/
theorem lex_at (s : ByteArray) (w wx : World) (hV : Vars w) (h8 : 8 ≤ w.heap.size) (hs : s.size ≤ 100000000) (hf : Fr No w wx) (k : List Tok) (p e n : Nat) (hl : lex14 s.data.toList = (k, p, e)) (hn : k.length = n) :
    Calls Tryz.prog 7 #[.string s] wx fun en w' => ∃ a cp, en = .returned (.tuple #[.slice a n cp, .int .i64 p, .int .i64 e]) ∧ Toks w' a (k.map Tok.pt) ∧ Fr No w w' ∧ Fr No wx w' := by
  subst hn
  refine (Lex_any s wx (hV.kept_no hf) (Nat.le_trans h8 hf.size) (by unfold maxLen; omega)).mono ?_
  rintro en w' ⟨v, he, ho, hf'⟩
  rw [hl] at he ho
  obtain ⟨a, cp, rfl, ht⟩ := ho.toks
  exact ⟨a, cp, he, ht, hf.trans_same hf', hf'⟩
/-- Print at a world behind w. -/
theorem print_at (a : Option Addr) (cp n : Nat) (l : List PT) (w wx : World) (htab : Lib.TabIs Tryz.prog w "internal/strconv.uint64pow10" .u64 Lib.pow10Tab) (hf : Fr No w wx) (hl : Toks wx a l) (hn : l.length = n) (hbig : n ≤ 1000000000) (hnum : ∀ t ∈ l, t.num < 18446744073709551616)
    (hlen : (tellR true l).length ≤ 1000000000) (s : Bytes) (e : Nat) (hp : print14 l = (s, e)) :
    Calls Tryz.prog 13 #[.slice a n cp] wx fun en w' => en = .returned (.tuple #[.string ⟨s.toArray⟩, .int .i64 e]) ∧ Fr No w w' ∧ Fr No wx w' := by
  subst hn
  refine (print_any a cp l wx hl (by omega) hnum (hf.tab htab) hlen).mono ?_
  rintro en w' ⟨he, hf'⟩
  rw [hp] at he
  exact ⟨he, hf.trans_same hf', hf'⟩
theorem same_at (a b : Option Addr) (c d n m : Nat) (l k : List PT) (w wx : World) (hf : Fr No w wx) (hl : Toks wx a l) (hk : Toks wx b k) (hn : l.length = n) (hm : k.length = m) (hbl : n ≤ 1000000000) (hbk : m ≤ 1000000000) (r : Bool) (hr : same14 l k = r) :
    Calls Tryz.prog 15 #[.slice a n c, .slice b m d] wx fun en w' => en = .returned (.bool r) ∧ Fr No w w' ∧ Fr No wx w' := by
  subst hn
  subst hm
  refine (same_any a b c d l k wx hl hk (by omega) (by omega)).mono ?_
  rintro en w' ⟨he, hf'⟩
  rw [hr] at he
  exact ⟨he, hf.trans_same hf', hf'⟩
theorem works_at (w wx : World) (hV : Vars w) (h8 : 8 ≤ w.heap.size) (htab : Lib.TabIs Tryz.prog w "internal/strconv.uint64pow10" .u64 Lib.pow10Tab) (hf : Fr No w wx) :
    Calls Tryz.prog 6 #[] wx fun en w' => en = .returned (.bool true) ∧ Fr No w w' :=
  (works_any wx (hV.kept_no hf) (Nat.le_trans h8 hf.size) (hf.tab htab)).mono fun _ _ ⟨he, hf'⟩ => ⟨he, hf.trans_same hf'⟩
end Go.Proofs.YtbdheihjnkfpiaaGreatDoor
