/-
  A token that may be is read as it is told (plain laws).
-/
import Derived.Test.YtbdheihjnkfpiaaGreatDoorPs
import Derived.Test.YtbdheihjnkfpiaaGreatDoorWp
namespace Go.Proofs.YtbdheihjnkfpiaaGreatDoor
open Go.Lib

/-- No byte of a word stands ahead. -/
def NoWord (l : Bytes) : Prop := ∀ c, l.head? = some c → isWord c = false
theorem noWord_nil : NoWord [] := fun c h => by cases h
theorem wordLen_app {a b : Bytes} (ha : a.all isWord = true) (hb : NoWord b) : wordLen (a ++ b) = a.length := by
  unfold wordLen
  induction a with
  | nil =>
    cases b with
    | nil => rfl
    | cons c r => have := hb c rfl; simp [this]
  | cons c r ih =>
    rw [List.all_cons, Bool.and_eq_true] at ha
    have := ih ha.2
    simp [ha.1, this]
theorem all_bytes (p : UInt8 → Bool) (h : ∀ n : Fin 256, p (UInt8.ofNat n.val) = true) (c : UInt8) : p c = true := by
  have := h ⟨c.toNat, c.toNat_lt⟩
  simpa using this
theorem ten_word' (c : UInt8) (h : isTen c = true) : isWord c = true ∧ cls c = 2 ∧ c ≠ 120 ∧ c ≠ 88 := by
  have := all_bytes (fun c => !isTen c || (isWord c && (cls c == 2 && (c != 120 && c != 88)))) (by decide +kernel) c
  rw [h] at this
  simpa using this
theorem dig_ten {d : Nat} (h : d < 10) : isTen (UInt8.ofNat (48 + d)) = true ∧ digV (UInt8.ofNat (48 + d)) = d := by
  have := (by decide +kernel : ∀ d : Fin 10, isTen (UInt8.ofNat (48 + d.val)) = true ∧ digV (UInt8.ofNat (48 + d.val)) = d.val) ⟨d, h⟩
  exact this
theorem decDigits_all (n : Nat) : (decDigits n).all isTen = true := by
  induction n using Nat.strongRecOn with
  | _ n ih =>
    rw [decDigits]
    split
    · rename_i h; rw [List.all_cons, (dig_ten h).1]; rfl
    · rename_i h
      rw [List.all_append, ih (n / 10) (by omega), List.all_cons, (dig_ten (d := n % 10) (by omega)).1]; rfl
theorem valFrom_app (b x : Nat) (l k : Bytes) : valFrom b x (l ++ k) = valFrom b (valFrom b x l) k := by unfold valFrom; rw [List.foldl_append]
theorem decDigits_val (n : Nat) : valOf 10 (decDigits n) = n := by
  induction n using Nat.strongRecOn with
  | _ n ih =>
    rw [decDigits]
    split
    · rename_i h; simp only [valOf, valFrom, List.foldl_cons, List.foldl_nil, (dig_ten h).2]; omega
    · rename_i h
      have e := ih (n / 10) (by omega)
      unfold valOf at e ⊢
      rw [valFrom_app, e]
      simp only [valFrom, List.foldl_cons, List.foldl_nil, (dig_ten (d := n % 10) (by omega)).2]
      omega
theorem decDigits_head (n : Nat) : ∃ c r, decDigits n = c :: r ∧ (r ≠ [] → c ≠ 48) := by
  induction n using Nat.strongRecOn with
  | _ n ih =>
    rw [decDigits]
    split
    · exact ⟨_, _, rfl, fun h => absurd rfl h⟩
    · rename_i h
      obtain ⟨c, r, e, hc⟩ := ih (n / 10) (by omega)
      refine ⟨c, r ++ [UInt8.ofNat (48 + n % 10)], by rw [e]; rfl, fun _ => ?_⟩
      by_cases hr : r = []
      · have h1 : n / 10 < 10 := by
          rcases Nat.lt_or_ge (n / 10) 10 with h1 | h1
          · exact h1
          · rw [decDigits, dif_neg (by omega)] at e
            subst hr
            have := congrArg List.length e
            have h2 : 0 < (decDigits (n / 10 / 10)).length := by obtain ⟨c', r', e', _⟩ := ih (n / 10 / 10) (by omega); rw [e']; simp
            rw [List.length_append, List.length_cons, List.length_cons, List.length_nil] at this; omega
        rw [decDigits, dif_pos h1] at e
        have e2 : UInt8.ofNat (48 + n / 10) = c := by injection e
        have h3 : 1 ≤ n / 10 := by omega
        have := (by decide +kernel : ∀ d : Fin 10, 1 ≤ d.val → UInt8.ofNat (48 + d.val) ≠ 48) ⟨n / 10, h1⟩ h3
        rw [← e2]; exact this
      · exact hc hr
theorem numOf_dec {n : Nat} (h : n < 18446744073709551616) : numOf (decDigits n) = .ok n := by
  obtain ⟨c, r, e, hc⟩ := decDigits_head n
  have hall := decDigits_all n
  have hval := decDigits_val n
  have hx : ¬ ((decDigits n).take 2 = [48, 120] ∨ (decDigits n).take 2 = [48, 88]) := by
    intro hh
    rw [e] at hh hall
    cases r with
    | nil => simp at hh
    | cons d r =>
      have hd : isTen d = true := by simp at hall; exact hall.2.1
      have := ten_word' d hd
      rcases hh with hh | hh
      · simp at hh; exact this.2.2.1 hh.2
      · simp at hh; exact this.2.2.2 hh.2
  have h8 : ¬ (1 < (decDigits n).length ∧ (decDigits n).head? = some 48) := by
    rw [e]
    rintro ⟨h1, h2⟩
    have hr : r ≠ [] := by rintro rfl; simp at h1
    exact hc hr (by simpa using h2)
  unfold numOf
  dsimp only
  rw [if_neg hx, if_neg hx, if_neg hx, if_neg h8, if_neg h8, if_neg (by rw [hall, e]; simp), hval, if_neg (by omega)]
theorem textRun_quoted (c : UInt8) (x : Bytes) : textRun 34 (quoteByte c ++ x) = (textRun 34 x).map fun p => (c :: p.1, p.2 + (quoteByte c).length) := by
  have hE : ∀ (d : UInt8) (y : UInt8) (n : Nat), escape (d :: x) = some (y, n) → n = 1 → textRun 34 (92 :: d :: x) = (textRun 34 x).map fun p => (y :: p.1, p.2 + 2) := by
    intro d y n he hn
    subst hn
    rw [textRun, if_neg (by decide), if_neg (by decide), if_pos rfl, he]
    rfl
  unfold quoteByte
  by_cases h1 : c = 10
  · subst h1; rw [if_pos rfl]; exact hE 110 10 1 rfl rfl
  rw [if_neg h1]
  by_cases h2 : c = 13
  · subst h2; rw [if_pos rfl]; exact hE 114 13 1 rfl rfl
  rw [if_neg h2]
  by_cases h3 : c = 9
  · subst h3; rw [if_pos rfl]; exact hE 116 9 1 rfl rfl
  rw [if_neg h3]
  by_cases h4 : c = 34
  · subst h4; rw [if_pos rfl]; exact hE 34 34 1 rfl rfl
  rw [if_neg h4]
  by_cases h5 : c = 92
  · subst h5; rw [if_pos rfl]; exact hE 92 92 1 rfl rfl
  rw [if_neg h5]
  by_cases h6 : c.toNat < 32 ∨ 126 < c.toNat
  · rw [if_pos h6]
    obtain ⟨d1, hd1⟩ : ∃ d, UInt8.ofNat (48 + c.toNat / 64) = d := ⟨_, rfl⟩
    obtain ⟨d2, hd2⟩ : ∃ d, UInt8.ofNat (48 + c.toNat / 8 % 8) = d := ⟨_, rfl⟩
    obtain ⟨d3, hd3⟩ : ∃ d, UInt8.ofNat (48 + c.toNat % 8) = d := ⟨_, rfl⟩
    have hp : (escPlain d1 = none ∧ d1 ≠ 120 ∧ d1 ≠ 88) ∧ (isEight d1 = true ∧ isEight d2 = true ∧ isEight d3 = true) ∧ valOf 8 [d1, d2, d3] = c.toNat := by
      have := (by decide +kernel : ∀ n : Fin 256, (escPlain (UInt8.ofNat (48 + n.val / 64)) = none ∧ UInt8.ofNat (48 + n.val / 64) ≠ 120 ∧ UInt8.ofNat (48 + n.val / 64) ≠ 88) ∧ (isEight (UInt8.ofNat (48 + n.val / 64)) = true ∧ isEight (UInt8.ofNat (48 + n.val / 8 % 8)) = true ∧ isEight (UInt8.ofNat (48 + n.val % 8)) = true) ∧ valOf 8 [UInt8.ofNat (48 + n.val / 64), UInt8.ofNat (48 + n.val / 8 % 8), UInt8.ofNat (48 + n.val % 8)] = n.val) ⟨c.toNat, c.toNat_lt⟩
      rw [hd1, hd2, hd3] at this
      exact this
    rw [hd1, hd2, hd3]
    have hd : ((d1 :: d2 :: d3 :: x).take 3).takeWhile isEight = [d1, d2, d3] := by
      simp [hp.2.1.1, hp.2.1.2.1, hp.2.1.2.2]
    have he : escape (d1 :: d2 :: d3 :: x) = some (c, 3) := by
      rw [escape, hp.1.1]
      dsimp only
      rw [if_neg (by simp [hp.1.2.1, hp.1.2.2]), hd, if_neg (by simp), hp.2.2, if_neg (by have := c.toNat_lt; omega)]
      simp
    show textRun 34 (92 :: d1 :: d2 :: d3 :: x) = _
    rw [textRun, if_neg (by decide), if_neg (by decide), if_pos rfl, he]
    rfl
  · rw [if_neg h6]
    have h7 : c ≠ 0 := by rintro rfl; exact h6 (.inl (by decide))
    show textRun 34 (c :: x) = _
    rw [textRun, if_neg h4, if_neg (by simp [h1, h7]), if_neg h5]
    rfl
theorem textRun_told (s b : Bytes) : textRun 34 (s.flatMap quoteByte ++ 34 :: b) = some (s, (s.flatMap quoteByte).length + 1) := by
  induction s with
  | nil => simp [textRun]
  | cons c r ih =>
    rw [List.flatMap_cons, List.append_assoc, textRun_quoted, ih]
    simp; omega
theorem take_app (a b : Bytes) : (a ++ b).take a.length = a := by simp
/-- A token that may be is read as it is told. -/
theorem tok_told (t : PT) (h : mayBe t = true) (hn : t.num < 18446744073709551616) (b : Bytes) (hb : NoWord b) :
    tokAt (told t ++ b) = .ok (t.kind.toNat, t.text, t.num, (told t).length) := by
  unfold mayBe at h
  unfold told
  by_cases h1 : t.kind = 1
  · rw [if_pos h1] at h
    rw [if_neg (by omega), if_neg (by omega), h1]
    simp only [Bool.and_eq_true, beq_iff_eq] at h
    obtain ⟨hz, hh, ha⟩ := h
    cases ht : t.text with
    | nil => rw [ht] at hh; simp at hh
    | cons c r =>
      rw [ht] at hh ha
      have hc : cls c = 1 := by simpa using hh
      have hw : wordLen (c :: r ++ b) = (c :: r).length := wordLen_app ha hb
      have hcons : c :: r ++ b = c :: (r ++ b) := rfl
      rw [hcons] at hw
      rw [hcons, tokAt, if_pos hc, hw, hz]
      have : (c :: (r ++ b)).take (c :: r).length = c :: r := take_app (c :: r) b
      rw [this]; rfl
  · rw [if_neg h1] at h
    by_cases h2 : t.kind = 2
    · rw [if_pos h2] at h
      rw [if_pos h2, h2]
      obtain ⟨c, r, e, _⟩ := decDigits_head t.num
      have ha := decDigits_all t.num
      have haw : (decDigits t.num).all isWord = true := by
        rw [List.all_eq_true] at ha ⊢
        exact fun x hx => (ten_word' x (ha x hx)).1
      have hw : wordLen (decDigits t.num ++ b) = (decDigits t.num).length := wordLen_app haw hb
      have htk := take_app (decDigits t.num) b
      have hnum := numOf_dec hn
      have hc : cls c = 2 := by
        rw [e] at ha; simp at ha; exact (ten_word' c ha.1).2.1
      have htx : t.text = [] := by simpa using h
      rw [htx]
      rw [← hw] at htk
      rw [e] at hw htk hnum ⊢
      have hcons : c :: r ++ b = c :: (r ++ b) := rfl
      rw [hcons] at hw htk ⊢
      rw [tokAt, if_neg (by rw [hc]; decide), if_pos hc, htk, hnum, hw]
      rfl
    · rw [if_neg h2] at h
      rw [if_neg h2]
      by_cases h3 : t.kind = 3
      · rw [if_pos h3] at h
        rw [if_pos h3, h3]
        have hz : t.num = 0 := by simpa using h
        have hcons : quote t.text ++ b = 34 :: (t.text.flatMap quoteByte ++ 34 :: b) := by simp [quote]
        rw [hcons, tokAt, if_neg (by decide), if_neg (by decide), if_pos (by decide), textRun_told, hz]
        simp [quote]
      · rw [if_neg h3] at h
        rw [if_neg h3]
        by_cases h4 : t.kind = 4
        · rw [if_pos h4] at h
          rw [h4]
          simp only [Bool.and_eq_true, beq_iff_eq] at h
          obtain ⟨hz, hl, hh⟩ := h
          cases ht : t.text with
          | nil => rw [ht] at hl; simp at hl
          | cons c r =>
            rw [ht] at hh hl
            have hr : r = [] := by simpa using hl
            subst hr
            have hc : cls c = 4 := by simpa using hh
            show tokAt (c :: b) = _
            rw [tokAt, if_neg (by rw [hc]; decide), if_neg (by rw [hc]; decide), if_neg (by rw [hc]; decide), if_pos hc, hz]
            rfl
        · rw [if_neg h4] at h; cases h
/-- How a told token begins. -/
theorem told_head (t : PT) (h : mayBe t = true) : ∃ c r, told t = c :: r ∧ cls c ≠ 5 ∧ c ≠ 47 := by
  have h47 : ∀ c : UInt8, cls c ≠ 0 → c ≠ 47 := fun c hc e => hc (by rw [e]; decide)
  unfold mayBe at h
  unfold told
  by_cases h1 : t.kind = 1
  · rw [if_pos h1] at h
    rw [if_neg (by omega), if_neg (by omega)]
    simp only [Bool.and_eq_true, beq_iff_eq] at h
    cases ht : t.text with
    | nil => rw [ht] at h; simp at h
    | cons c r =>
      rw [ht] at h
      have hc : cls c = 1 := by simpa using h.2.1
      exact ⟨c, r, rfl, by rw [hc]; decide, h47 c (by rw [hc]; decide)⟩
  · rw [if_neg h1] at h
    by_cases h2 : t.kind = 2
    · rw [if_pos h2]
      obtain ⟨c, r, e, _⟩ := decDigits_head t.num
      have ha := decDigits_all t.num
      rw [e] at ha; simp at ha
      have hc := (ten_word' c ha.1).2.1
      exact ⟨c, r, e, by rw [hc]; decide, h47 c (by rw [hc]; decide)⟩
    · rw [if_neg h2] at h
      rw [if_neg h2]
      by_cases h3 : t.kind = 3
      · rw [if_pos h3]
        exact ⟨34, _, rfl, by decide, by decide⟩
      · rw [if_neg h3] at h
        rw [if_neg h3]
        by_cases h4 : t.kind = 4
        · rw [if_pos h4] at h
          simp only [Bool.and_eq_true, beq_iff_eq] at h
          cases ht : t.text with
          | nil => rw [ht] at h; simp at h
          | cons c r =>
            rw [ht] at h
            have hc : cls c = 4 := by simpa using h.2.2
            exact ⟨c, r, rfl, by rw [hc]; decide, h47 c (by rw [hc]; decide)⟩
        · rw [if_neg h4] at h; cases h
end Go.Proofs.YtbdheihjnkfpiaaGreatDoor
