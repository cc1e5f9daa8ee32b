/-
  Reading back what was told (plain laws of the stage).
-/
import Derived.Test.YtbdheihjnkfpiaaGreatDoorBa
namespace Go.Proofs.YtbdheihjnkfpiaaGreatDoor
open Go.Lib

theorem gapLen_tok {c : UInt8} {r : Bytes} (h1 : cls c ≠ 5) (h2 : c ≠ 47) : gapLen (c :: r) = (0, true) := by
  rw [gapLen, if_neg h1, if_neg (by simp [h2]), if_neg (by simp [h2])]
theorem gapLen_blank {c : UInt8} {r : Bytes} (h : cls c = 5) : gapLen (c :: r) = ((gapLen r).1 + 1, (gapLen r).2) := by rw [gapLen, if_pos h]
theorem gapLen_nil : gapLen [] = (0, true) := by rw [gapLen]
theorem gapLen_told {t : PT} (h : mayBe t = true) (b : Bytes) : gapLen (told t ++ b) = (0, true) := by
  obtain ⟨c, r, e, h1, h2⟩ := told_head t h
  rw [e]; exact gapLen_tok h1 h2
theorem told_ne {t : PT} (h : mayBe t = true) : told t ≠ [] := by
  obtain ⟨c, r, e, _⟩ := told_head t h
  rw [e]; simp
theorem noWord_tellR (l : List PT) : NoWord (tellR false l) := by
  intro c h
  cases l with
  | nil => cases h
  | cons t r =>
    have : c = 32 := by simpa [tellR] using h.symm
    rw [this]; decide
def tok (p : Nat) (t : PT) : Tok := ⟨t.kind.toNat, p, t.text, t.num⟩
/-- A gap, a told token, what stands behind. -/
theorem lexFrom_told {p : Nat} {g : Bytes} {t : PT} (h : mayBe t = true) (hn : t.num < 18446744073709551616) {b : Bytes} (hb : NoWord b) (hg : gapLen (g ++ (told t ++ b)) = (g.length, true)) :
    lexFrom p (g ++ (told t ++ b)) = (tok (p + g.length) t :: (lexFrom (p + g.length + (told t).length) b).1, (lexFrom (p + g.length + (told t).length) b).2) := by
  rw [lexFrom_ok (by rw [hg]), hg]
  dsimp only
  rw [show (g ++ (told t ++ b)).drop g.length = told t ++ b by simp]
  unfold lexAt
  rw [if_neg (by simp [told_ne h]), tok_told t h hn b hb]
  dsimp only
  rw [show (told t ++ b).drop (told t).length = b by simp]
  rfl
theorem lexFrom_nil (p : Nat) : lexFrom p [] = ([], none) := by
  rw [lexFrom_ok (by rw [gapLen_nil]), gapLen_nil]; rfl
/-- All told tokens are read again. -/
theorem lexFrom_tellR (l : List PT) (h : ∀ t ∈ l, mayBe t = true) (hn : ∀ t ∈ l, t.num < 18446744073709551616) : ∀ (first : Bool) (p : Nat),
    ∃ k : List Tok, lexFrom p (tellR first l) = (k, none) ∧ same14 l (k.map Tok.pt) = true := by
  induction l with
  | nil => intro first p; exact ⟨[], by rw [tellR, lexFrom_nil], rfl⟩
  | cons t r ih =>
    intro first p
    have ht := h t (List.mem_cons_self ..)
    have hnt := hn t (List.mem_cons_self ..)
    have hr := ih (fun t ht => h t (List.mem_cons_of_mem _ ht)) (fun t ht => hn t (List.mem_cons_of_mem _ ht)) false
    have hk : sameOne t (tok 0 t).pt = true := by
      have : ((t.kind.toNat : Nat) : Int) = t.kind := by
        have : t.kind = 1 ∨ t.kind = 2 ∨ t.kind = 3 ∨ t.kind = 4 := by
          unfold mayBe at ht
          by_cases h1 : t.kind = 1
          · exact .inl h1
          · by_cases h2 : t.kind = 2
            · exact .inr (.inl h2)
            · by_cases h3 : t.kind = 3
              · exact .inr (.inr (.inl h3))
              · by_cases h4 : t.kind = 4
                · exact .inr (.inr (.inr h4))
                · rw [if_neg h1, if_neg h2, if_neg h3, if_neg h4] at ht; cases ht
        omega
      simp [sameOne, tok, Tok.pt, this]
    cases first with
    | true =>
      have e : tellR true (t :: r) = [] ++ (told t ++ tellR false r) := rfl
      rw [e, lexFrom_told ht hnt (noWord_tellR r) (gapLen_told ht _)]
      obtain ⟨k, e1, e2⟩ := hr (p + ([] : Bytes).length + (told t).length)
      rw [e1]
      exact ⟨_, rfl, by rw [List.map_cons, same14, e2, Bool.and_true]; exact hk⟩
    | false =>
      have e : tellR false (t :: r) = [32] ++ (told t ++ tellR false r) := rfl
      rw [e, lexFrom_told ht hnt (noWord_tellR r) (by show gapLen (32 :: (told t ++ tellR false r)) = _; rw [gapLen_blank (by decide), gapLen_told ht]; rfl)]
      obtain ⟨k, e1, e2⟩ := hr (p + ([32] : Bytes).length + (told t).length)
      rw [e1]
      exact ⟨_, rfl, by rw [List.map_cons, same14, e2, Bool.and_true]; exact hk⟩
theorem textRun_size (q : UInt8) : ∀ (m : Nat) (l : Bytes), l.length ≤ m → ∀ t n, textRun q l = some (t, n) → t.length + 1 ≤ n := by
  intro m
  induction m with
  | zero =>
    intro l hl t n h
    have : l = [] := List.eq_nil_of_length_eq_zero (by omega)
    subst this; rw [textRun] at h; cases h
  | succ m ih =>
    intro l hl t n h
    cases l with
    | nil => rw [textRun] at h; cases h
    | cons c r =>
      rw [List.length_cons] at hl
      rw [textRun] at h
      by_cases h1 : c = q
      · rw [if_pos h1] at h; cases h; simp
      · rw [if_neg h1] at h
        by_cases h2 : c = 10 ∨ c = 0
        · rw [if_pos h2] at h; cases h
        · rw [if_neg h2] at h
          by_cases h3 : c = 92
          · rw [if_pos h3] at h
            cases he : escape r with
            | none => rw [he] at h; cases h
            | some xk =>
              obtain ⟨x, k⟩ := xk
              rw [he] at h
              dsimp only at h
              cases ht : textRun q (r.drop k) with
              | none => rw [ht] at h; cases h
              | some tn =>
                rw [ht] at h
                have := ih (r.drop k) (by rw [List.length_drop]; omega) tn.1 tn.2 ht
                cases h
                simp; omega
          · rw [if_neg h3] at h
            cases ht : textRun q r with
            | none => rw [ht] at h; cases h
            | some tn =>
              rw [ht] at h
              have := ih r (by omega) tn.1 tn.2 ht
              cases h
              simp; omega
theorem numOf_lt {s : Bytes} {x : Nat} (h : numOf s = .ok x) : x < 18446744073709551616 := by
  unfold numOf at h
  dsimp only at h
  generalize (if s.take 2 = [48, 120] ∨ s.take 2 = [48, 88] then s.drop 2 else s) = p at h
  generalize (if s.take 2 = [48, 120] ∨ s.take 2 = [48, 88] then isHex else if 1 < s.length ∧ s.head? = some 48 then isEight else isTen) = q at h
  generalize (if s.take 2 = [48, 120] ∨ s.take 2 = [48, 88] then 16 else if 1 < s.length ∧ s.head? = some 48 then 8 else 10) = bs at h
  by_cases c1 : p = [] ∨ ¬ p.all q = true
  · rw [if_pos c1] at h; cases h
  · rw [if_neg c1] at h
    by_cases c2 : 18446744073709551616 ≤ valOf bs p
    · rw [if_pos c2] at h; cases h
    · rw [if_neg c2] at h; cases h; omega
theorem decDigits_len {n : Nat} (h : n < 18446744073709551616) : (decDigits n).length ≤ 20 := by
  have key : ∀ k n, n < 10 ^ (k + 1) → (decDigits n).length ≤ k + 1 := by
    intro k
    induction k with
    | zero => intro n hn; rw [decDigits, dif_pos (by omega)]; simp
    | succ k ih =>
      intro n hn
      rw [decDigits]
      split
      · simp
      · have := ih (n / 10) (by rw [Nat.pow_succ] at hn; omega)
        simp; omega
  exact key 19 n (by omega)
theorem takeWord_all (l : Bytes) : (l.take (wordLen l)).all isWord = true := by
  unfold wordLen
  rw [← List.prefix_iff_eq_take.1 (List.takeWhile_prefix (p := isWord) (l := l))]
  exact List.all_takeWhile
/-- What is read may be told; how long it is then. -/
theorem tokAt_may {l : Bytes} {k x n p : Nat} {t : Bytes} (h : tokAt l = .ok (k, t, x, n)) :
    mayBe ⟨(k : Int), p, t, x⟩ = true ∧ x < 18446744073709551616 ∧ (told ⟨(k : Int), p, t, x⟩).length ≤ 20 * n := by
  have hlen := tokAt_len h
  have hpos := (tokAt_pos h).1
  cases l with
  | nil => rw [tokAt] at h; cases h
  | cons c r =>
    rw [tokAt] at h
    by_cases h1 : cls c = 1
    · rw [if_pos h1] at h
      have hw := wordLen_pos (c := c) (r := r) (.inl h1)
      have ha := takeWord_all (c :: r)
      obtain ⟨m, hm⟩ : ∃ m, wordLen (c :: r) = m + 1 := ⟨wordLen (c :: r) - 1, by omega⟩
      rw [hm] at h ha
      cases h
      refine ⟨?_, by omega, ?_⟩
      · rw [List.take_succ_cons] at ha ⊢
        simp [mayBe, h1]
        simpa using ha
      · simp [told]; omega
    · rw [if_neg h1] at h
      by_cases h2 : cls c = 2
      · rw [if_pos h2] at h
        cases hx : numOf ((c :: r).take (wordLen (c :: r))) with
        | error e => rw [hx] at h; cases h
        | ok y =>
          rw [hx] at h
          cases h
          have hlt := numOf_lt hx
          have := decDigits_len hlt
          refine ⟨by simp [mayBe], hlt, ?_⟩
          simp [told]; omega
      · rw [if_neg h2] at h
        by_cases h3 : cls c = 3
        · rw [if_pos h3] at h
          cases ht : textRun c r with
          | none => rw [ht] at h; cases h
          | some tn =>
            rw [ht] at h
            obtain ⟨t', n'⟩ := tn
            have hs := textRun_size c _ r (Nat.le_refl _) _ _ ht
            have hq := quote_len t'
            cases h
            refine ⟨by simp [mayBe], by omega, ?_⟩
            simp [told]; omega
        · rw [if_neg h3] at h
          by_cases h4 : cls c = 4
          · rw [if_pos h4] at h
            cases h
            refine ⟨by simp [mayBe, h4], by omega, ?_⟩
            simp [told]
          · rw [if_neg h4] at h; cases h
theorem lexFrom_may : ∀ (m : Nat) (l : Bytes), l.length ≤ m → ∀ p, (∀ t ∈ (lexFrom p l).1, mayBe t.pt = true ∧ t.num < 18446744073709551616) ∧ ∀ b, (tellR b ((lexFrom p l).1.map Tok.pt)).length ≤ 21 * l.length := by
  intro m
  induction m with
  | zero =>
    intro l hl p
    have : l = [] := List.eq_nil_of_length_eq_zero (by omega)
    subst this
    rw [lexFrom_nil]
    exact ⟨fun t h => absurd h (List.not_mem_nil), fun b => by simp [tellR]⟩
  | succ m ih =>
    intro l hl p
    cases hg : (gapLen l).2 with
    | false => rw [lexFrom_bad hg]; exact ⟨fun t h => absurd h (List.not_mem_nil), fun b => by simp [tellR]⟩
    | true =>
      rw [lexFrom_ok hg]
      unfold lexAt
      by_cases hn : l.drop (gapLen l).1 = []
      · rw [if_pos hn]; exact ⟨fun t h => absurd h (List.not_mem_nil), fun b => by simp [tellR]⟩
      · rw [if_neg hn]
        cases ht : tokAt (l.drop (gapLen l).1) with
        | error er => exact ⟨fun t h => absurd h (List.not_mem_nil), fun b => by simp [tellR]⟩
        | ok r =>
          obtain ⟨k, t, x, n⟩ := r
          dsimp only
          have h1 := (tokAt_pos ht).1
          have h2 := tokAt_len ht
          have hp : 0 < (l.drop (gapLen l).1).length := List.length_pos_iff.2 hn
          rw [List.length_drop] at h2 hp
          obtain ⟨m1, m2, m3⟩ := tokAt_may (p := p + (gapLen l).1) ht
          have hI := ih ((l.drop (gapLen l).1).drop n) (by rw [List.length_drop, List.length_drop]; omega) (p + (gapLen l).1 + n)
          refine ⟨?_, ?_⟩
          · intro t' ht'
            rcases List.mem_cons.1 ht' with e | e
            · subst e; exact ⟨m1, m2⟩
            · exact hI.1 t' e
          · intro b
            have hl2 := hI.2 false
            rw [List.length_drop, List.length_drop] at hl2
            rw [List.map_cons, tellR, List.length_append]
            have m3' : (told (Tok.pt ⟨k, p + (gapLen l).1, t, x⟩)).length ≤ 20 * n := m3
            cases b
            · simp only [Bool.false_eq_true, if_false, List.length_cons]; omega
            · simp only [if_true]; omega
theorem told_same {a b : PT} (h : sameOne a b = true) : told a = told b ∧ mayBe a = mayBe b ∧ a.num = b.num := by
  unfold sameOne at h
  simp only [Bool.and_eq_true, beq_iff_eq] at h
  obtain ⟨h1, h2, h3⟩ := h
  unfold told mayBe
  rw [h1, h2, h3]
  exact ⟨rfl, rfl, rfl⟩
theorem tellR_same : ∀ (a b : List PT), same14 a b = true → ∀ f, tellR f a = tellR f b ∧ a.any (fun t => !mayBe t) = b.any (fun t => !mayBe t)
  | [], [], _, f => ⟨rfl, rfl⟩
  | [], _ :: _, h, f => by cases h
  | _ :: _, [], h, f => by cases h
  | x :: a, y :: b, h, f => by
    rw [same14, Bool.and_eq_true] at h
    obtain ⟨e1, e2, _⟩ := told_same h.1
    have := tellR_same a b h.2
    exact ⟨by rw [tellR, tellR, e1, (this false).1], by rw [List.any_cons, List.any_cons, e2, (this f).2]⟩
theorem same14_len : ∀ (a b : List PT), same14 a b = true → a.length = b.length
  | [], [], _ => rfl
  | [], _ :: _, h => by cases h
  | _ :: _, [], h => by cases h
  | x :: a, y :: b, h => by
    rw [same14, Bool.and_eq_true] at h
    rw [List.length_cons, List.length_cons, same14_len a b h.2]
theorem print14_ok {l : List PT} {s : Bytes} (h : print14 l = (s, 0)) : (∀ t ∈ l, mayBe t = true) ∧ (tellR true l).length ≤ maxText ∧ s = tellR true l := by
  unfold print14 at h
  by_cases h1 : (l.any fun t => !mayBe t) = true
  · rw [if_pos h1] at h; cases h
  · rw [if_neg h1] at h
    by_cases h2 : maxText < (tellR true l).length
    · rw [if_pos h2] at h; cases h
    · rw [if_neg h2] at h
      cases h
      refine ⟨fun t ht => ?_, by omega, rfl⟩
      rw [List.any_eq_true] at h1
      cases hm : mayBe t with
      | true => rfl
      | false => exact absurd ⟨t, ht, by simp [hm]⟩ h1
theorem print14_of {l : List PT} (h : ∀ t ∈ l, mayBe t = true) (hs : (tellR true l).length ≤ maxText) : print14 l = (tellR true l, 0) := by
  unfold print14
  rw [if_neg (by rw [List.any_eq_true]; rintro ⟨t, ht, hm⟩; rw [h t ht] at hm; cases hm), if_neg (by omega)]
/-- THE STAGE'S THEOREM, first half: tokens are read as they were told. -/
theorem back_one (l : List PT) (hn : ∀ t ∈ l, t.num < 18446744073709551616) (s : Bytes) (h : print14 l = (s, 0)) :
    ∃ k, lex14 s = (k, 0, 0) ∧ same14 l (k.map Tok.pt) = true := by
  obtain ⟨h1, h2, rfl⟩ := print14_ok h
  obtain ⟨k, e1, e2⟩ := lexFrom_tellR l h1 hn true 0
  exact ⟨k, lex14_ok (by omega) e1, e2⟩
/-- Second half: a text's tokens are those of their telling. -/
theorem back_two (s : Bytes) (hs : s.length ≤ 5000) (k : List Tok) (p : Nat) (h : lex14 s = (k, p, 0)) :
    ∃ t again, print14 (k.map Tok.pt) = (t, 0) ∧ lex14 t = (again, 0, 0) ∧ print14 (again.map Tok.pt) = (t, 0) ∧ same14 (k.map Tok.pt) (again.map Tok.pt) = true := by
  have hk : k = (lexFrom 0 s).1 := by
    cases h2 : lexFrom 0 s with
    | mk l o =>
      cases o with
      | none => rw [lex14_ok (by unfold maxText; omega) h2] at h; cases h; rfl
      | some pe => obtain ⟨p', e'⟩ := pe; have := lexFrom_err _ s (Nat.le_refl _) 0 p' e' (by rw [h2]); rw [lex14_bad (by unfold maxText; omega) h2] at h; cases h; omega
  have hm := lexFrom_may _ s (Nat.le_refl _) 0
  rw [← hk] at hm
  have hmay : ∀ t ∈ k.map Tok.pt, mayBe t = true ∧ t.num < 18446744073709551616 := by
    intro t ht
    obtain ⟨t', ht', rfl⟩ := List.mem_map.1 ht
    exact hm.1 t' ht'
  have hp := print14_of (fun t ht => (hmay t ht).1) (by have := hm.2 true; unfold maxText; omega)
  obtain ⟨again, e1, e2⟩ := back_one _ (fun t ht => (hmay t ht).2) _ hp
  have hs2 := tellR_same _ _ e2 true
  refine ⟨_, again, hp, e1, ?_, e2⟩
  unfold print14 at hp ⊢
  rw [← hs2.1, ← hs2.2]
  exact hp
end Go.Proofs.YtbdheihjnkfpiaaGreatDoor
