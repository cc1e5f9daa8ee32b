/-
  What LexBounds reads and tells, reckoned: many ';', and the greatest numbers.
-/
import Derived.Test.YtinodapgldbljaaDoorSa
import Derived.Test.YtinodapgldbljaaDoorWp
namespace Go.Proofs.YtinodapgldbljaaDoor
/-- The tokens of n ';' from place p on. -/
def semis (p : Nat) : Nat → List Tok
  | 0 => []
  | n + 1 => ⟨4, p, [59], 0⟩ :: semis (p + 1) n
theorem semis_len : ∀ n p, (semis p n).length = n
  | 0, _ => rfl
  | n + 1, p => by rw [semis, List.length_cons, semis_len n]
theorem semis_all : ∀ n p, ∀ t ∈ semis p n, t.kind = 4 ∧ t.text = [59] ∧ t.num = 0
  | 0, _, t, h => by cases h
  | n + 1, p, t, h => by
    rw [semis] at h
    rcases List.mem_cons.1 h with h | h
    · subst h; exact ⟨rfl, rfl, rfl⟩
    · exact semis_all n (p + 1) t h
theorem lex_semis : ∀ n p, lexFrom p (List.replicate n 59) = (semis p n, none)
  | 0, p => lexFrom_nil p
  | n + 1, p => by
    rw [List.replicate_succ, lexFrom_zero (gapLen_tok (by decide) (by decide)), lexAt_tok (show tokAt (59 :: List.replicate n 59) = .ok (4, [59], 0, 1) from by rw [tokAt, if_neg (by decide), if_neg (by decide), if_neg (by decide), if_pos (by decide)])]
    rw [show (59 :: List.replicate n (59 : UInt8)).drop 1 = List.replicate n 59 from rfl, lex_semis n (p + 1)]
    rfl
theorem told_semi {t : PT} (h : t.kind = 4 ∧ t.text = [59] ∧ t.num = 0) : told t = [59] := by
  unfold told; rw [h.1, h.2.1]; rfl
theorem may_semi {t : PT} (h : t.kind = 4 ∧ t.text = [59] ∧ t.num = 0) : mayBe t = true := by
  unfold mayBe; rw [h.1, h.2.1, h.2.2]; decide
theorem tell_semis : ∀ l : List PT, (∀ t ∈ l, t.kind = 4 ∧ t.text = [59] ∧ t.num = 0) → (tellR false l).length = 2 * l.length ∧ (l ≠ [] → (tellR true l).length + 1 = 2 * l.length)
  | [], _ => ⟨rfl, fun h => absurd rfl h⟩
  | t :: r, h => by
    have ht := told_semi (h t (List.mem_cons_self ..))
    have hr := (tell_semis r (fun t ht => h t (List.mem_cons_of_mem _ ht))).1
    constructor
    · simp only [tellR, ht, Bool.false_eq_true, if_false, List.length_append, List.length_cons, List.length_nil, hr]; omega
    · intro _
      simp only [tellR, ht, if_true, List.length_append, List.length_cons, List.length_nil, hr]; omega
/-- The tokens of k of the ';', as they come in. -/
theorem semis_pt (l : List Tok) (k : Nat) (n : Nat) (hl : l = semis 0 n) : ∀ t ∈ (l.map Tok.pt).take k, t.kind = 4 ∧ t.text = [59] ∧ t.num = 0 := by
  intro t ht
  obtain ⟨t', ht', rfl⟩ := List.mem_map.1 (List.mem_of_mem_take ht)
  subst hl
  obtain ⟨h1, h2, h3⟩ := semis_all n 0 t' ht'
  exact ⟨by show (t'.kind : Int) = 4; rw [h1]; rfl, h2, h3⟩
theorem print_semis (l : List PT) (h : ∀ t ∈ l, t.kind = 4 ∧ t.text = [59] ∧ t.num = 0) (h1 : l ≠ []) (h2 : l.length ≤ 524288) : ∃ s, print14 l = (s, 0) ∧ s.length + 1 = 2 * l.length :=
  ⟨_, print14_of (fun t ht => may_semi (h t ht)) (by have := (tell_semis l h).2 h1; unfold maxText; omega), (tell_semis l h).2 h1⟩
theorem print_semis_long (l : List PT) (h : ∀ t ∈ l, t.kind = 4 ∧ t.text = [59] ∧ t.num = 0) (h2 : 524288 < l.length) : print14 l = ([], 3) := by
  unfold print14
  rw [if_neg (by
    intro h3
    obtain ⟨t, ht, h4⟩ := List.any_eq_true.1 h3
    rw [may_semi (h t ht)] at h4; cases h4), if_pos (by have := (tell_semis l h).2 (fun e => by rw [e] at h2; simp at h2); unfold maxText; omega)]
def bigText : Bytes := [49, 56, 52, 52, 54, 55, 52, 52, 48, 55, 51, 55, 48, 57, 53, 53, 49, 54, 49, 53, 32, 48, 120, 102, 102, 102, 102, 102, 102, 102, 102, 102, 102, 102, 102, 102, 102, 102, 102, 32, 48, 49, 55, 55, 55, 55, 55, 55, 55, 55, 55, 55, 55, 55, 55, 55, 55, 55, 55, 55, 55, 55, 55]
def bigToks : List Tok := [⟨2, 0, [], 18446744073709551615⟩, ⟨2, 21, [], 18446744073709551615⟩, ⟨2, 40, [], 18446744073709551615⟩]
/-- A blank, then a token. -/
theorem lexFrom_one {p : Nat} {c : UInt8} {r : Bytes} (h1 : cls c ≠ 5) (h2 : c ≠ 47) : lexFrom p (32 :: c :: r) = lexAt (p + 1) (c :: r) := by
  have hg : gapLen (32 :: c :: r) = (1, true) := by rw [gapLen_blank (by decide), gapLen_tok h1 h2]
  rw [lexFrom_ok (by rw [hg]), hg]
  rfl
theorem big_lex : lexFrom 0 bigText = (bigToks, none) := by
  unfold bigText bigToks
  rw [lexFrom_zero (gapLen_tok (by decide) (by decide)), lexAt_tok (show tokAt _ = .ok (2, [], 18446744073709551615, 20) from by rfl)]
  rw [show List.drop 20 ([49, 56, 52, 52, 54, 55, 52, 52, 48, 55, 51, 55, 48, 57, 53, 53, 49, 54, 49, 53, 32, 48, 120, 102, 102, 102, 102, 102, 102, 102, 102, 102, 102, 102, 102, 102, 102, 102, 102, 32, 48, 49, 55, 55, 55, 55, 55, 55, 55, 55, 55, 55, 55, 55, 55, 55, 55, 55, 55, 55, 55, 55, 55] : Bytes) = 32 :: 48 :: [120, 102, 102, 102, 102, 102, 102, 102, 102, 102, 102, 102, 102, 102, 102, 102, 102, 32, 48, 49, 55, 55, 55, 55, 55, 55, 55, 55, 55, 55, 55, 55, 55, 55, 55, 55, 55, 55, 55, 55, 55] from rfl]
  rw [lexFrom_one (by decide) (by decide), lexAt_tok (show tokAt _ = .ok (2, [], 18446744073709551615, 18) from by rfl)]
  rw [show List.drop 18 (48 :: [120, 102, 102, 102, 102, 102, 102, 102, 102, 102, 102, 102, 102, 102, 102, 102, 102, 32, 48, 49, 55, 55, 55, 55, 55, 55, 55, 55, 55, 55, 55, 55, 55, 55, 55, 55, 55, 55, 55, 55, 55] : Bytes) = 32 :: 48 :: [49, 55, 55, 55, 55, 55, 55, 55, 55, 55, 55, 55, 55, 55, 55, 55, 55, 55, 55, 55, 55, 55] from rfl]
  rw [lexFrom_one (by decide) (by decide), lexAt_tok (show tokAt _ = .ok (2, [], 18446744073709551615, 23) from by rfl)]
  rw [show List.drop 23 (48 :: [49, 55, 55, 55, 55, 55, 55, 55, 55, 55, 55, 55, 55, 55, 55, 55, 55, 55, 55, 55, 55, 55] : Bytes) = [] from rfl, lexFrom_nil]
theorem big_lex14 : lex14 bigText = (bigToks, 0, 0) := lex14_ok (by decide) big_lex
def overTen : Bytes := [49, 32, 49, 56, 52, 52, 54, 55, 52, 52, 48, 55, 51, 55, 48, 57, 53, 53, 49, 54, 49, 54]
def overHex : Bytes := [49, 32, 48, 120, 49, 48, 48, 48, 48, 48, 48, 48, 48, 48, 48, 48, 48, 48, 48, 48, 48]
theorem over_ten : lex14 overTen = ([], 2, 4) := by
  refine lex14_bad (l := [⟨2, 0, [], 1⟩]) (by decide) ?_
  unfold overTen
  rw [lexFrom_zero (gapLen_tok (by decide) (by decide)), lexAt_tok (show tokAt _ = .ok (2, [], 1, 1) from by rfl)]
  rw [show List.drop 1 ([49, 32, 49, 56, 52, 52, 54, 55, 52, 52, 48, 55, 51, 55, 48, 57, 53, 53, 49, 54, 49, 54] : Bytes) = 32 :: 49 :: [56, 52, 52, 54, 55, 52, 52, 48, 55, 51, 55, 48, 57, 53, 53, 49, 54, 49, 54] from rfl]
  rw [lexFrom_one (by decide) (by decide), lexAt_err (by simp) (show tokAt _ = .error 4 from by rfl)]
theorem over_hex : lex14 overHex = ([], 2, 4) := by
  refine lex14_bad (l := [⟨2, 0, [], 1⟩]) (by decide) ?_
  unfold overHex
  rw [lexFrom_zero (gapLen_tok (by decide) (by decide)), lexAt_tok (show tokAt _ = .ok (2, [], 1, 1) from by rfl)]
  rw [show List.drop 1 ([49, 32, 48, 120, 49, 48, 48, 48, 48, 48, 48, 48, 48, 48, 48, 48, 48, 48, 48, 48, 48] : Bytes) = 32 :: 48 :: [120, 49, 48, 48, 48, 48, 48, 48, 48, 48, 48, 48, 48, 48, 48, 48, 48, 48] from rfl]
  rw [lexFrom_one (by decide) (by decide), lexAt_err (by simp) (show tokAt _ = .error 4 from by rfl)]
end Go.Proofs.YtinodapgldbljaaDoor
