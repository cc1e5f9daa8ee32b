/-
  Gaps between tokens change nothing but places (plain laws).
-/
import Derived.Test.YtinodapgldbljaaDoorBb
import Derived.Test.YtinodapgldbljaaDoorSa
namespace Go.Proofs.YtinodapgldbljaaDoor
/-- The gaps that stand between tokens. -/
def gapS (g : Nat) : Bytes :=
  match g with
  | 0 => [32] | 1 => [10] | 2 => [47, 42, 42, 47] | 3 => [47, 47, 10] | 4 => [47, 42, 10, 47, 47, 42, 47] | 5 => [9, 11, 12, 13, 32] | 6 => [32, 47, 47, 32, 97, 34, 39, 47, 42, 10] | _ => [47, 42, 42, 42, 47, 32]
theorem gapS_len (g : Nat) : 1 ≤ (gapS g).length ∧ (gapS g).length ≤ 10 := by
  unfold gapS; split <;> decide
theorem gap_line {r : Bytes} : gapLen (47 :: 47 :: r) = ((gapLen ((47 :: r).drop (lineLen (47 :: r)))).1 + (lineLen (47 :: r) + 1), (gapLen ((47 :: r).drop (lineLen (47 :: r)))).2) := by
  rw [gapLen, if_neg (by decide), if_pos (by simp)]
theorem gap_block {r : Bytes} {k : Nat} (h : endLen r = some k) : gapLen (47 :: 42 :: r) = ((gapLen (r.drop k)).1 + (k + 2), (gapLen (r.drop k)).2) := by
  rw [gapLen, if_neg (by decide), if_neg (by simp), if_pos (by simp), show ((42 :: r).drop 1) = r from rfl, h]
  rfl
theorem endLen_hit {r : Bytes} : endLen (42 :: 47 :: r) = some 2 := by rw [endLen, if_pos (by simp)]
theorem endLen_skip {c : UInt8} {r : Bytes} {k : Nat} (h : ¬ (c = 42 ∧ r.head? = some 47)) (hr : endLen r = some k) : endLen (c :: r) = some (k + 1) := by rw [endLen, if_neg h, hr]; rfl
theorem gap_gap (g : Nat) (b : Bytes) (h : gapLen b = (0, true)) : gapLen (gapS g ++ b) = ((gapS g).length, true) := by
  have l10 : ∀ (r : Bytes), lineLen (10 :: r) = 0 := fun r => by unfold lineLen; rfl
  unfold gapS
  split
  · show gapLen (32 :: b) = _
    rw [gapLen_blank (by decide), h]; rfl
  · show gapLen (10 :: b) = _
    rw [gapLen_blank (by decide), h]; rfl
  · show gapLen (47 :: 42 :: 42 :: 47 :: b) = _
    rw [gap_block endLen_hit]
    show ((gapLen b).1 + (2 + 2), (gapLen b).2) = _
    rw [h]; rfl
  · show gapLen (47 :: 47 :: 10 :: b) = _
    rw [gap_line]
    have e : lineLen (47 :: 10 :: b) = 1 := by unfold lineLen; rfl
    rw [e]
    show ((gapLen (10 :: b)).1 + (1 + 1), (gapLen (10 :: b)).2) = _
    rw [gapLen_blank (by decide), h]; rfl
  · show gapLen (47 :: 42 :: 10 :: 47 :: 47 :: 42 :: 47 :: b) = _
    rw [gap_block (endLen_skip (by simp) (endLen_skip (by simp) (endLen_skip (by simp) endLen_hit)))]
    show ((gapLen b).1 + _, (gapLen b).2) = _
    rw [h]; rfl
  · show gapLen (9 :: 11 :: 12 :: 13 :: 32 :: b) = _
    rw [gapLen_blank (by decide), gapLen_blank (by decide), gapLen_blank (by decide), gapLen_blank (by decide), gapLen_blank (by decide), h]; rfl
  · show gapLen (32 :: 47 :: 47 :: 32 :: 97 :: 34 :: 39 :: 47 :: 42 :: 10 :: b) = _
    rw [gapLen_blank (by decide), gap_line]
    have e : lineLen (47 :: 32 :: 97 :: 34 :: 39 :: 47 :: 42 :: 10 :: b) = 7 := by unfold lineLen; rfl
    rw [e]
    show ((gapLen (10 :: b)).1 + (7 + 1) + 1, (gapLen (10 :: b)).2) = _
    rw [gapLen_blank (by decide), h]; rfl
  · show gapLen (47 :: 42 :: 42 :: 42 :: 47 :: 32 :: b) = _
    rw [gap_block (endLen_skip (by simp) endLen_hit)]
    show ((gapLen (32 :: b)).1 + _, (gapLen (32 :: b)).2) = _
    rw [gapLen_blank (by decide), h]; rfl
/-- Gaps and tokens, laid one behind the other. -/
def laidOf : List (Nat × PT) → Bytes
  | [] => []
  | (g, t) :: r => gapS g ++ (told t ++ laidOf r)
/-- Where each begins. -/
def placesOf (p : Nat) : List (Nat × PT) → List Nat
  | [] => []
  | (g, t) :: r => (p + (gapS g).length) :: placesOf (p + (gapS g).length + (told t).length) r
theorem laidOf_app : ∀ (a b : List (Nat × PT)), laidOf (a ++ b) = laidOf a ++ laidOf b
  | [], b => rfl
  | (g, t) :: r, b => by rw [List.cons_append, laidOf, laidOf, laidOf_app r b]; simp
theorem placesOf_app : ∀ (p : Nat) (a b : List (Nat × PT)), placesOf p (a ++ b) = placesOf p a ++ placesOf (p + (laidOf a).length) b
  | p, [], b => rfl
  | p, (g, t) :: r, b => by
    rw [List.cons_append, placesOf, placesOf, placesOf_app, laidOf]
    simp only [List.length_append, List.cons_append]
    congr 3
    omega
theorem noWord_laid (l : List (Nat × PT)) (b : Bytes) (hb : NoWord b) : NoWord (laidOf l ++ b) := by
  intro c h
  cases l with
  | nil => exact hb c h
  | cons x r =>
    obtain ⟨g, t⟩ := x
    rw [laidOf] at h
    unfold gapS at h
    split at h <;> (simp at h; rw [← h]; decide)
theorem lexFrom_laid (l : List (Nat × PT)) (hm : ∀ x ∈ l, mayBe x.2 = true) (hn : ∀ x ∈ l, x.2.num < 18446744073709551616) (b : Bytes) (hb : NoWord b) : ∀ (p : Nat),
    ∃ k : List Tok, lexFrom p (laidOf l ++ b) = (k ++ (lexFrom (p + (laidOf l).length) b).1, (lexFrom (p + (laidOf l).length) b).2) ∧ same14 (k.map Tok.pt) (l.map (·.2)) = true ∧ k.map (·.place) = placesOf p l := by
  induction l with
  | nil => intro p; exact ⟨[], by simp [laidOf], rfl, rfl⟩
  | cons x r ih =>
    intro p
    obtain ⟨g, t⟩ := x
    have ht := hm (g, t) (List.mem_cons_self ..)
    have hnt := hn (g, t) (List.mem_cons_self ..)
    have hg : gapLen (gapS g ++ (told t ++ (laidOf r ++ b))) = ((gapS g).length, true) := gap_gap g _ (gapLen_told ht _)
    have e : laidOf ((g, t) :: r) ++ b = gapS g ++ (told t ++ (laidOf r ++ b)) := by rw [laidOf]; simp
    rw [e, lexFrom_told ht hnt (noWord_laid r b hb) hg]
    obtain ⟨k, e1, e2, e3⟩ := ih (fun x h => hm x (List.mem_cons_of_mem _ h)) (fun x h => hn x (List.mem_cons_of_mem _ h)) (p + (gapS g).length + (told t).length)
    rw [e1]
    have hlen : p + (gapS g).length + (told t).length + (laidOf r).length = p + (laidOf ((g, t) :: r)).length := by rw [laidOf]; simp; omega
    rw [hlen]
    refine ⟨tok (p + (gapS g).length) t :: k, rfl, ?_, ?_⟩
    · rw [List.map_cons, List.map_cons, same14, e2, Bool.and_true]
      have hk : ((t.kind.toNat : Nat) : Int) = t.kind := by
        have : t.kind = 1 ∨ t.kind = 2 ∨ t.kind = 3 ∨ t.kind = 4 := by
          unfold mayBe at ht
          by_cases h1 : t.kind = 1
          · exact .inl h1
          · by_cases h2 : t.kind = 2
            · exact .inr (.inl h2)
            · by_cases h3 : t.kind = 3
              · exact .inr (.inr (.inl h3))
              · by_cases h4 : t.kind = 4
                · exact .inr (.inr (.inr h4))
                · rw [if_neg h1, if_neg h2, if_neg h3, if_neg h4] at ht; cases ht
        omega
      simp [sameOne, tok, Tok.pt, hk]
    · rw [List.map_cons, e3, placesOf]; rfl
theorem tail_end (p : Nat) : lexFrom p [47, 42, 32, 42, 47, 32, 47, 47] = ([], none) := by
  have hg : gapLen [47, 42, 32, 42, 47, 32, 47, 47] = (8, true) := by
    rw [gap_block (endLen_skip (by decide) endLen_hit)]
    show ((gapLen [32, 47, 47]).1 + _, (gapLen [32, 47, 47]).2) = _
    rw [gapLen_blank (by decide), gap_line]
    have e : lineLen [47] = 1 := by unfold lineLen; rfl
    rw [e]
    show ((gapLen []).1 + _ + 1 + _, (gapLen []).2) = _
    rw [gapLen_nil]
  rw [lexFrom_ok (by rw [hg]), hg]
  show lexAt (p + 8) [] = _
  rw [lexAt_end]
theorem tail_bad (p : Nat) : lexFrom p [32, 35] = ([], some (p + 1, 240)) := by
  have hg : gapLen [32, 35] = (1, true) := by rw [gapLen_blank (by decide), gapLen_tok (by decide) (by decide)]
  rw [lexFrom_ok (by rw [hg]), hg]
  show lexAt (p + 1) [35] = _
  rw [lexAt_err (by simp) (e := 240) (by rfl)]
/-- Blanks and comments between tokens change nothing but places. -/
theorem gaps_read (l : List (Nat × PT)) (hm : ∀ x ∈ l, mayBe x.2 = true) (hn : ∀ x ∈ l, x.2.num < 18446744073709551616) (hs : (laidOf l).length ≤ 1000000) :
    ∃ k, lex14 (laidOf l ++ [47, 42, 32, 42, 47, 32, 47, 47]) = (k, 0, 0) ∧ same14 (k.map Tok.pt) (l.map (·.2)) = true ∧ k.map (·.place) = placesOf 0 l ∧
      lex14 (laidOf l ++ [32, 35]) = ([], (laidOf l).length + 1, 240) := by
  obtain ⟨k, e1, e2, e3⟩ := lexFrom_laid l hm hn [47, 42, 32, 42, 47, 32, 47, 47] (by intro c h; simp at h; rw [← h]; decide) 0
  obtain ⟨k', f1, _, _⟩ := lexFrom_laid l hm hn [32, 35] (by intro c h; simp at h; rw [← h]; decide) 0
  rw [tail_end] at e1
  rw [tail_bad] at f1
  refine ⟨k, ?_, e2, e3, ?_⟩
  · exact lex14_ok (by simp [maxText]; omega) (by rw [e1]; simp)
  · have := lex14_bad (s := laidOf l ++ [32, 35]) (by simp [maxText]; omega) f1
    rw [this]; simp
end Go.Proofs.YtinodapgldbljaaDoor
