/-
  The document's number and escape: plain laws, and the walks (each test is cut around, so the ways meet again).
-/
import Derived.Test.YtbdheihjnkfpiaaGreatDoorRe
import Derived.Deep.LoopGhost
import Derived.Deep.DeepCutAuto
import Derived.Deep.DeepMust
import Derived.Deep.CutBlock
namespace Go.Proofs.YtbdheihjnkfpiaaGreatDoor
open Go Go.RowKit
/-- Does a number to the base sixteen stand at the head? -/
def hexy (l : Bytes) : Bool := l.take 2 == [48, 120] || l.take 2 == [48, 88]
def numF (l : Bytes) : Nat := if hexy l then 2 else 0
def numE (l : Bytes) : Nat := if hexy l then 2 + ((l.drop 2).takeWhile isHex).length else (l.takeWhile isTen).length
def numB (l : Bytes) : Nat := if hexy l then 16 else if l.head? = some 48 ∧ 1 < (l.takeWhile isTen).length then 8 else 10
def NumBad (l : Bytes) : Prop := numF l = numE l ∨ (∃ d, l[numE l]? = some d ∧ isWord d = true) ∨ (numB l = 8 ∧ (l.takeWhile isEight).length ≠ numE l)
def numPart (l : Bytes) : Bytes := (l.drop (numF l)).take (numE l - numF l)

theorem hexy_form {l : Bytes} (h : hexy l = true) : ∃ x r, l = 48 :: x :: r ∧ (x = 120 ∨ x = 88) := by
  unfold hexy at h
  simp only [Bool.or_eq_true, beq_iff_eq] at h
  match l, h with
  | [], h => simp at h
  | [a], h => simp at h
  | a :: b :: r, h =>
    simp at h
    rcases h with ⟨rfl, rfl⟩ | ⟨rfl, rfl⟩
    · exact ⟨_, _, rfl, .inl rfl⟩
    · exact ⟨_, _, rfl, .inr rfl⟩
theorem hexy_of {x : UInt8} {r : Bytes} (h : x = 120 ∨ x = 88) : hexy (48 :: x :: r) = true := by
  rcases h with rfl | rfl <;> simp [hexy]
theorem numOf_hexy {s : Bytes} (h : hexy s = true) : numOf s = if s.drop 2 = [] ∨ ¬ (s.drop 2).all isHex = true then .error 240 else if 18446744073709551616 ≤ valOf 16 (s.drop 2) then .error 4 else .ok (valOf 16 (s.drop 2)) := by
  have h' : s.take 2 = [48, 120] ∨ s.take 2 = [48, 88] := by
    unfold hexy at h; simpa using h
  unfold numOf
  simp only [h', if_true]
theorem numOf_other {s : Bytes} (h : hexy s = false) : numOf s = (if 1 < s.length ∧ s.head? = some 48 then
      (if s = [] ∨ ¬ s.all isEight = true then .error 240 else if 18446744073709551616 ≤ valOf 8 s then .error 4 else .ok (valOf 8 s))
    else (if s = [] ∨ ¬ s.all isTen = true then .error 240 else if 18446744073709551616 ≤ valOf 10 s then .error 4 else .ok (valOf 10 s))) := by
  have h' : ¬ (s.take 2 = [48, 120] ∨ s.take 2 = [48, 88]) := by
    unfold hexy at h; simpa using h
  unfold numOf
  simp only [h', if_false]
  split <;> rfl
theorem ten_hex (c : UInt8) (h : isTen c = true) : isHex c = true := by
  unfold isTen at h; unfold isHex; rw [h]; simp
theorem all_mono {p q : UInt8 → Bool} (h : ∀ c, p c = true → q c = true) {l : Bytes} (hl : l.all p = true) : l.all q = true := by
  rw [List.all_eq_true] at hl ⊢; exact fun c hc => h c (hl c hc)
theorem take_run (p : UInt8 → Bool) (l : Bytes) : l.take (l.takeWhile p).length = l.takeWhile p :=
  (List.prefix_iff_eq_take.1 (List.takeWhile_prefix p)).symm
theorem run_sub {p q : UInt8 → Bool} (h : ∀ c, p c = true → q c = true) : ∀ l : Bytes, (l.takeWhile p).length ≤ (l.takeWhile q).length
  | [] => Nat.le_refl _
  | c :: l => by
    rw [List.takeWhile_cons, List.takeWhile_cons]
    cases hp : p c
    · simp
    · rw [h c hp]; simpa using run_sub h l
theorem run_ge {p : UInt8 → Bool} : ∀ (l : Bytes) (n : Nat), (l.take n).all p = true → n ≤ l.length → n ≤ (l.takeWhile p).length
  | _, 0, _, _ => Nat.zero_le _
  | [], n + 1, _, h => by simp at h
  | c :: l, n + 1, h, hn => by
    rw [List.take_succ_cons, List.all_cons, Bool.and_eq_true] at h
    rw [List.takeWhile_cons, if_pos h.1]
    have := run_ge l n h.2 (by simpa using hn)
    simpa using this
theorem run_le (p : UInt8 → Bool) (l : Bytes) : (l.takeWhile p).length ≤ l.length := (List.takeWhile_prefix p).length_le
theorem hexy_word {x : UInt8} {r : Bytes} (h : x = 120 ∨ x = 88) : wordLen (48 :: x :: r) = wordLen r + 2 := by
  rw [wordLen_cons, wordLen_cons, if_pos (by decide), if_pos (by rcases h with rfl | rfl <;> decide)]
theorem hexy_take {l : Bytes} {n : Nat} (h : hexy l = false) : hexy (l.take n) = false := by
  rw [Bool.eq_false_iff] at h ⊢
  intro h2
  apply h
  obtain ⟨x, r, e, hx⟩ := hexy_form h2
  have hl : 2 ≤ (l.take n).length := by rw [e]; simp
  have hn : 2 ≤ n := by simp at hl; omega
  have : (l.take n).take 2 = l.take 2 := by rw [List.take_take, Nat.min_eq_left hn]
  unfold hexy at h2 ⊢
  rw [← this]; exact h2
theorem numE_le (l : Bytes) : numE l ≤ l.length := by
  unfold numE
  cases h : hexy l
  · simpa using run_le isTen l
  · obtain ⟨x, r, rfl, hx⟩ := hexy_form h
    have := run_le isHex r
    simp; omega
theorem numF_le (l : Bytes) : numF l ≤ numE l := by
  unfold numE numF
  cases h : hexy l <;> simp
/-- What the document's answer calls no number is none. -/
theorem num_bad {c : UInt8} {r : Bytes} (hc : isTen c = true) (h : NumBad (c :: r)) : numOf ((c :: r).take (wordLen (c :: r))) = .error 240 := by
  generalize hl : c :: r = l at h
  cases hx : hexy l
  · unfold NumBad numF numE numB at h
    simp only [hx, Bool.false_eq_true, if_false] at h
    have hw := word_run isTen ten_word l
    rw [numOf_other (hexy_take hx)]
    have hz : 0 < (l.takeWhile isTen).length := by rw [← hl, List.takeWhile_cons, if_pos hc]; simp
    by_cases hn : ∃ d, l[(l.takeWhile isTen).length]? = some d ∧ isWord d = true
    · have ha := hw.1 hn
      have h8 : (l.take (wordLen l)).all isEight = false := by
        rw [Bool.eq_false_iff] at ha ⊢
        exact fun e => ha (all_mono eight_ten e)
      rw [ha, h8]; simp
    · rcases h with h | h | ⟨h1, h2⟩
      · omega
      · exact absurd h hn
      · have hb := (hw.2 (fun d hd => by cases hd2 : isWord d; rfl; exact absurd ⟨d, hd, hd2⟩ hn)).1
        have h3 : l.head? = some 48 ∧ 1 < (l.takeWhile isTen).length := by
          by_cases h3 : l.head? = some 48 ∧ 1 < (l.takeWhile isTen).length
          · exact h3
          · rw [if_neg h3] at h1; omega
        have hle := run_le isTen l
        have h8 : ¬ (l.take (l.takeWhile isTen).length).all isEight = true := fun e => by
          have := run_ge l _ e hle
          have := run_sub eight_ten l
          omega
        have hc1 : 1 < (l.take (l.takeWhile isTen).length).length ∧ (l.take (l.takeWhile isTen).length).head? = some 48 := ⟨by rw [List.length_take]; omega, by rw [List.head?_take, if_neg (by omega)]; exact h3.1⟩
        rw [hb, if_pos hc1, if_pos (.inr h8)]
  · obtain ⟨x, t, e, hx2⟩ := hexy_form hx
    unfold NumBad numF numE numB at h
    simp only [hx, if_true] at h
    subst e
    have hw := word_run isHex hex_word t
    rw [hexy_word hx2, List.take_succ_cons, List.take_succ_cons, numOf_hexy (hexy_of hx2)]
    rw [if_pos]
    by_cases hn : ∃ d, t[(t.takeWhile isHex).length]? = some d ∧ isWord d = true
    · right
      have := hw.1 hn
      simpa using this
    · have hb := (hw.2 (fun d hd => by cases hd2 : isWord d; rfl; exact absurd ⟨d, hd, hd2⟩ hn)).1
      left
      rcases h with h | h | h
      · have h0 : (t.takeWhile isHex).length = 0 := by simpa using h
        rw [hb, h0]; simp
      · obtain ⟨d, hd, hd2⟩ := h
        exact absurd ⟨d, by simpa [Nat.add_comm 2] using hd, hd2⟩ hn
      · omega
/-- What it calls a number is one, of that value. -/
theorem num_good {c : UInt8} {r : Bytes} (hc : isTen c = true) (h : ¬ NumBad (c :: r)) :
    wordLen (c :: r) = numE (c :: r) ∧ (numPart (c :: r)).all isHex = true ∧
    numOf ((c :: r).take (wordLen (c :: r))) = if 18446744073709551616 ≤ valOf (numB (c :: r)) (numPart (c :: r)) then .error 4 else .ok (valOf (numB (c :: r)) (numPart (c :: r))) := by
  generalize hl : c :: r = l at h
  unfold NumBad at h
  simp only [not_or, not_exists, not_and] at h
  obtain ⟨h1, h2, h3⟩ := h
  cases hx : hexy l
  · have hz : 0 < (l.takeWhile isTen).length := by rw [← hl, List.takeWhile_cons, if_pos hc]; simp
    have hw := word_run isTen ten_word l
    have hle := run_le isTen l
    unfold numPart
    simp only [numF, numE, numB, hx, Bool.false_eq_true, if_false] at h1 h2 h3 ⊢
    have hb := hw.2 (fun d hd => by have := h2 d hd; simpa using this)
    have hb1 := hb.1
    rw [hb1] at hb ⊢
    rw [List.drop_zero, Nat.sub_zero]
    refine ⟨rfl, all_mono ten_hex hb.2, ?_⟩
    rw [numOf_other (hexy_take hx)]
    have hne : l.take (l.takeWhile isTen).length ≠ [] := by
      intro e
      have := congrArg List.length e
      rw [List.length_take, List.length_nil] at this
      omega
    have hhd : (l.take (l.takeWhile isTen).length).head? = l.head? := by rw [List.head?_take, if_neg (by omega)]
    have hln : (l.take (l.takeWhile isTen).length).length = (l.takeWhile isTen).length := by rw [List.length_take]; omega
    rw [hhd, hln]
    by_cases h8 : l.head? = some 48 ∧ 1 < (l.takeWhile isTen).length
    · rw [if_pos h8] at h3 ⊢
      have h4 : (l.takeWhile isEight).length = (l.takeWhile isTen).length := by
        have := h3 rfl; omega
      have h5 : (l.take (l.takeWhile isTen).length).all isEight = true := by
        rw [← h4, take_run]; exact List.all_takeWhile
      rw [if_pos ⟨h8.2, h8.1⟩, if_neg (by rw [h5]; simp [hne])]
    · rw [if_neg h8, if_neg (fun e => h8 ⟨e.2, e.1⟩), if_neg (by rw [hb.2]; simp [hne])]
  · obtain ⟨x, t, e, hx2⟩ := hexy_form hx
    have hw := word_run isHex hex_word t
    unfold numPart
    simp only [numF, numE, numB, hx, if_true] at h1 h2 h3 ⊢
    subst e
    have hb := hw.2 (fun d hd => by have := h2 d (by simpa [Nat.add_comm 2] using hd); simpa using this)
    rw [hexy_word hx2, hb.1, List.take_succ_cons, List.take_succ_cons, numOf_hexy (hexy_of hx2)]
    rw [hb.1] at hb
    have hz : (t.takeWhile isHex).length ≠ 0 := by
      intro e; apply h1; simpa using e
    have hle := run_le isHex t
    have hne : t.take (t.takeWhile isHex).length ≠ [] := by
      intro e
      have := congrArg List.length e
      rw [List.length_take, List.length_nil] at this
      omega
    have e3 : (2 + ((List.drop 2 (48 :: x :: t)).takeWhile isHex).length - 2) = (t.takeWhile isHex).length := by simp
    rw [e3]
    refine ⟨by simp [Nat.add_comm], hb.2, ?_⟩
    show (if t.take (t.takeWhile isHex).length = [] ∨ ¬ (t.take (t.takeWhile isHex).length).all isHex = true then Except.error 240 else _) = _
    rw [if_neg (by rw [hb.2]; simp [hne])]
    rfl
theorem take_while (p : UInt8 → Bool) : ∀ (n : Nat) (l : Bytes), (l.take n).takeWhile p = (l.takeWhile p).take n
  | 0, l => by simp
  | n + 1, [] => by simp
  | n + 1, c :: l => by
    rw [List.take_succ_cons, List.takeWhile_cons, List.takeWhile_cons]
    cases p c
    · simp
    · simp [take_while p n l]
/-- The plain escapes: what stands behind the backslash, and what it means. -/
def plainP : Bytes := [97, 98, 102, 110, 114, 116, 118, 92, 39, 34]
def plainM : Bytes := [7, 8, 12, 10, 13, 9, 11, 92, 39, 34]
theorem plain_at : ∀ (i : Nat) (h : i < 10), escPlain (plainP[i]'h) = some (plainM[i]'h) := by decide
theorem plain_no (c : UInt8) (h : ∀ (i : Nat) (h : i < 10), plainP[i]'h ≠ c) : escPlain c = none := by
  have h0 : (97 : UInt8) ≠ c := h 0 (by decide)
  have h1 : (98 : UInt8) ≠ c := h 1 (by decide)
  have h2 : (102 : UInt8) ≠ c := h 2 (by decide)
  have h3 : (110 : UInt8) ≠ c := h 3 (by decide)
  have h4 : (114 : UInt8) ≠ c := h 4 (by decide)
  have h5 : (116 : UInt8) ≠ c := h 5 (by decide)
  have h6 : (118 : UInt8) ≠ c := h 6 (by decide)
  have h7 : (92 : UInt8) ≠ c := h 7 (by decide)
  have h8 : (39 : UInt8) ≠ c := h 8 (by decide)
  have h9 : (34 : UInt8) ≠ c := h 9 (by decide)
  unfold escPlain
  rw [if_neg h0.symm, if_neg h1.symm, if_neg h2.symm, if_neg h3.symm, if_neg h4.symm, if_neg h5.symm, if_neg h6.symm, if_neg h7.symm, if_neg h8.symm, if_neg h9.symm]
/-- How many digits an escape's number has, and which. -/
def escN (c : UInt8) (r : Bytes) : Nat := if c = 120 ∨ c = 88 then min (r.takeWhile isHex).length 2 else min ((c :: r).takeWhile isEight).length 3
def escD (c : UInt8) (r : Bytes) : Bytes := if c = 120 ∨ c = 88 then r.take (escN c r) else (c :: r).take (escN c r)
def escB (c : UInt8) : Nat := if c = 120 ∨ c = 88 then 16 else 8
def escF (c : UInt8) : Nat := if c = 120 ∨ c = 88 then 1 else 0
theorem run_take (p : UInt8 → Bool) (l : Bytes) (n : Nat) : (l.take n).takeWhile p = l.take (min (l.takeWhile p).length n) := by
  rw [take_while, ← take_run p l, List.take_take, List.length_take, Nat.min_comm n, Nat.min_eq_left (run_le p l)]
theorem escape_num {c : UInt8} {r : Bytes} (h : escPlain c = none) :
    escape (c :: r) = if escN c r = 0 ∨ 256 ≤ valOf (escB c) (escD c r) then none else some (UInt8.ofNat (valOf (escB c) (escD c r)), escF c + escN c r) := by
  have hnil : ∀ (l : Bytes) (p : UInt8 → Bool) (n : Nat), (l.take (min (l.takeWhile p).length n) = []) ↔ min (l.takeWhile p).length n = 0 := by
    intro l p n
    have := run_le p l
    rw [← List.length_eq_zero_iff, List.length_take]; omega
  have hlen : ∀ (l : Bytes) (p : UInt8 → Bool) (n : Nat), (l.take (min (l.takeWhile p).length n)).length = min (l.takeWhile p).length n := by
    intro l p n
    have := run_le p l
    rw [List.length_take]; omega
  simp only [escape, h]
  unfold escB escD escF escN
  by_cases hx : c = 120 ∨ c = 88
  · simp only [if_pos hx]
    rw [run_take]
    have hv : valOf 16 (r.take (min (r.takeWhile isHex).length 2)) < 256 := by
      have hall : ∀ d ∈ r.take (min (r.takeWhile isHex).length 2), isHex d = true := by
        rw [← run_take]; exact List.all_eq_true.1 List.all_takeWhile
      have hl := hlen r isHex 2
      generalize r.take (min (r.takeWhile isHex).length 2) = d at hall hl
      match d, hall, hl with
      | [], _, _ => decide
      | [a], ha, _ =>
        have := digV_hex a (ha a (by simp))
        show 16 * 0 + digV a < 256
        omega
      | [a, b], ha, _ =>
        have := digV_hex a (ha a (by simp))
        have := digV_hex b (ha b (by simp))
        show 16 * (16 * 0 + digV a) + digV b < 256
        omega
      | _ :: _ :: _ :: _, _, hl => simp at hl; omega
    by_cases h0 : min (r.takeWhile isHex).length 2 = 0
    · rw [if_pos ((hnil _ _ _).2 h0), if_pos (.inl h0)]
    · rw [if_neg (fun e => h0 ((hnil _ _ _).1 e)), if_neg (by omega), hlen, Nat.add_comm]
  · simp only [if_neg hx]
    rw [run_take]
    by_cases h0 : min ((c :: r).takeWhile isEight).length 3 = 0
    · rw [if_pos ((hnil _ _ _).2 h0), if_pos (.inl h0)]
    · rw [if_neg (fun e => h0 ((hnil _ _ _).1 e)), hlen]
      by_cases h1 : 256 ≤ valOf 8 ((c :: r).take (min ((c :: r).takeWhile isEight).length 3))
      · rw [if_pos h1, if_pos (.inr h1)]
      · rw [if_neg h1, if_neg (by omega), Nat.zero_add]
theorem escD_val (c : UInt8) (r : Bytes) : valOf (escB c) (escD c r) < 4096 := by
  have hall : ∀ d ∈ escD c r, isHex d = true := by
    unfold escD escN
    split
    · rw [← run_take]; exact List.all_eq_true.1 List.all_takeWhile
    · rw [← run_take]; exact List.all_eq_true.1 (all_mono (fun c h => ten_hex c (eight_ten c h)) List.all_takeWhile)
  have hl : (escD c r).length ≤ 3 := by unfold escD escN; split <;> (rw [List.length_take]; omega)
  have hb : escB c ≤ 16 := by unfold escB; split <;> omega
  generalize escB c = B at hb
  generalize escD c r = d at hall hl
  match d, hall, hl with
  | [], _, _ => exact Nat.zero_lt_succ _
  | [a], ha, _ =>
    have := digV_hex a (ha a (by simp))
    show B * 0 + digV a < 4096
    omega
  | [a, b], ha, _ =>
    have := digV_hex a (ha a (by simp))
    have := digV_hex b (ha b (by simp))
    show B * (B * 0 + digV a) + digV b < 4096
    have h1 : B * (B * 0 + digV a) ≤ 16 * 15 := Nat.mul_le_mul hb (by omega)
    omega
  | [a, b, e], ha, _ =>
    have := digV_hex a (ha a (by simp))
    have := digV_hex b (ha b (by simp))
    have := digV_hex e (ha e (by simp))
    show B * (B * (B * 0 + digV a) + digV b) + digV e < 4096
    have h1 : B * (B * 0 + digV a) ≤ 16 * 15 := Nat.mul_le_mul hb (by omega)
    have h2 : B * (B * (B * 0 + digV a) + digV b) ≤ 16 * (16 * 15 + 15) := Nat.mul_le_mul hb (by omega)
    omega
  | _ :: _ :: _ :: _ :: _, _, hl => simp at hl
theorem escD_hex (c : UInt8) (r : Bytes) : ∀ d ∈ escD c r, isHex d = true := by
  unfold escD escN
  split
  · rw [← run_take]; exact List.all_eq_true.1 List.all_takeWhile
  · rw [← run_take]; exact List.all_eq_true.1 (all_mono (fun c h => ten_hex c (eight_ten c h)) List.all_takeWhile)
theorem vi {k : IntKind} {a b : Int} (h : a = b) : Value.int k a = .int k b := by rw [h]
theorem rvalue_any (b : Nat) (s : ByteArray) (w : World) (hb : b = 8 ∨ b = 10 ∨ b = 16) (hs : s.size ≤ 2147483640) (hall : ∀ c ∈ s.data.toList, isHex c = true) :
    Calls Tryz.prog 61 #[.string s, .int .u64 b] w fun e w' => e = rval (valOf b s.data.toList) ∧ w = w' := by
  rcases hb with rfl | rfl | rfl
  · exact rvalue_8 s w hs hall
  · exact rvalue_10 s w hs hall
  · exact rvalue_16 s w hs hall
theorem byte_here (s : ByteArray) (k : Nat) (hk : k < s.size) : s.data.toList[k]? = some s[k] := by
  have h' : k < s.data.toList.length := by simpa using hk
  rw [List.getElem?_eq_getElem h']
  simp
  rfl
theorem numB_cases (l : Bytes) : numB l = 8 ∨ numB l = 10 ∨ numB l = 16 := by
  unfold numB
  split
  · exact .inr (.inr rfl)
  · split
    · exact .inl rfl
    · exact .inr (.inl rfl)
theorem not_bad {L : Bytes} (h1 : numF L ≠ numE L) (h2 : ∀ d, L[numE L]? = some d → isWord d = false) (h3 : numB L = 8 → (L.takeWhile isEight).length = numE L) : ¬ NumBad L := by
  rintro (h | ⟨d, hd, hw⟩ | ⟨h8, hne⟩)
  · exact h1 h
  · rw [h2 d hd] at hw; cases hw
  · exact hne (h3 h8)
set_option maxRecDepth 100000 in
set_option maxHeartbeats 8000000 in
theorem rnumber_any (s : ByteArray) (k : Nat) (w : World) (hs : s.size ≤ 2147483000) (hk : k < s.size) (hc : isTen s[k] = true) :
    Calls Tryz.prog 46 #[.string s, .int .i64 k] w (RNumPost k (wordLen (s.data.toList.drop k)) (numOf ((s.data.toList.drop k).take (wordLen (s.data.toList.drop k)))) w) := by
  obtain ⟨N, hN⟩ : ∃ N, N = wordLen (s.data.toList.drop k) := ⟨_, rfl⟩
  obtain ⟨R, hR⟩ : ∃ R, R = numOf ((s.data.toList.drop k).take (wordLen (s.data.toList.drop k))) := ⟨_, rfl⟩
  have hdk := drop_byte s k hk
  have hlen : (s.data.toList.drop k).length = s.size - k := by simp
  obtain ⟨L, hL⟩ : ∃ L, L = s.data.toList.drop k := ⟨_, rfl⟩
  have hbad : NumBad L → R = .error 240 := fun h => by rw [hR, hdk]; exact num_bad hc (by rw [hL, hdk] at h; exact h)
  have hgood : ¬ NumBad L → N = numE L ∧ (numPart L).all isHex = true ∧ R = if 18446744073709551616 ≤ valOf (numB L) (numPart L) then .error 4 else .ok (valOf (numB L) (numPart L)) := fun h => by
    rw [hL, hdk] at h
    have := num_good hc h
    rw [hR, hN, hL, hdk]; exact this
  rw [← hR, ← hN]
  obtain ⟨t, ht⟩ : ∃ t, t = k + (L.takeWhile isTen).length := ⟨_, rfl⟩
  obtain ⟨F, hF⟩ : ∃ F, F = k + numF L := ⟨_, rfl⟩
  obtain ⟨E, hE⟩ : ∃ E, E = k + numE L := ⟨_, rfl⟩
  obtain ⟨B, hB⟩ : ∃ B, B = numB L := ⟨_, rfl⟩
  obtain ⟨b1, hb1⟩ : ∃ b1, b1 = if L.head? = some 48 ∧ 1 < (L.takeWhile isTen).length then 8 else 10 := ⟨_, rfl⟩
  obtain ⟨R8, hR8⟩ : ∃ R8, R8 = k + (L.takeWhile isEight).length := ⟨_, rfl⟩
  have hLc : L = s[k] :: s.data.toList.drop (k + 1) := by rw [hL, hdk]
  have t1 : k + 1 ≤ t := by rw [ht, hLc, List.takeWhile_cons, if_pos hc]; simp
  have t2 : t ≤ s.size := by have := run_le isTen L; rw [hL, hlen] at this; rw [ht, hL]; omega
  have e2 : E ≤ s.size := by have := numE_le L; rw [hL, hlen] at this; rw [hE, hL]; omega
  have f1 : F ≤ E := by have := numF_le L; omega
  have f0 : k ≤ F := by omega
  have r2 : R8 ≤ s.size := by have := run_le isEight L; rw [hL, hlen] at this; rw [hR8, hL]; omega
  have hhd : L.head? = some s[k] := by rw [hLc]; rfl
  obtain ⟨c, hc0⟩ : ∃ c, s[k] = c := ⟨_, rfl⟩
  rw [hc0] at hhd hLc
  have HH := Lib.hid (And.intro hhd (And.intro hLc hL))
  have HT := Lib.hid ht
  have HRun := Lib.hid (fun w => (by have h := rrun_ten s k w (by omega) (by omega); rw [← hL, ← ht] at h; exact h : Calls Tryz.prog 45 #[.string s, .int .i64 k, .string ⟨#[48, 49, 50, 51, 52, 53, 54, 55, 56, 57]⟩] w fun e w' => e = .returned (.int .i64 (t : Nat)) ∧ w = w'))
  have HRun8 := Lib.hid (fun w => (by have h := rrun_eight s k w (by omega) (by omega); rw [← hL, ← hR8] at h; exact h : Calls Tryz.prog 45 #[.string s, .int .i64 k, .string ⟨#[48, 49, 50, 51, 52, 53, 54, 55]⟩] w fun e w' => e = .returned (.int .i64 (R8 : Nat)) ∧ w = w'))
  have HF := Lib.hid (And.intro hF (And.intro hE hB))
  have HB1 := Lib.hid hb1
  have HR8 := Lib.hid hR8
  have HBG := Lib.hid (And.intro hbad hgood)
  have HL := Lib.hid (And.intro hdk hlen)
  clear hbad hgood hdk hlen hF hE hB hb1 hR8 ht hhd hLc hL hN hR hc
  go_enter Tryz.func46, Tryz.ntmps46
  go_upto_region 2 with (go_at_call 45; refine (HRun.out _).mono ?_; rintro e w' ⟨rfl, rfl⟩)
  obtain ⟨z1, hz1⟩ : ∃ z1 : Bool, z1 = (((c.toNat : Int) == 48) && decide (k + 1 < t)) := ⟨_, rfl⟩
  have HZ1 := Lib.hid hz1
  clear hz1
  go_cut [25] (fun v25 wx => w = wx ∧ v25 = .bool z1)
  case first =>
    cases g0 : (c.toNat : Int) == 48
    · have HB2 : Hid (false = z1) := Lib.hid (by rw [HZ1.out, g0]; rfl)
      go_wp2_with fail
      go_meet
      exact ⟨rfl, congrArg Value.bool HB2.out⟩
    · by_cases h1 : k + 1 < t
      · have HB2 : Hid (true = z1) := Lib.hid (by rw [HZ1.out, g0]; simp [h1])
        go_wp2_with fail
        go_meet
        exact ⟨rfl, congrArg Value.bool ((decide_eq_true (by omega)).trans HB2.out)⟩
      · have HB2 : Hid (false = z1) := Lib.hid (by rw [HZ1.out, g0]; simp [h1])
        go_wp2_with fail
        go_meet
        exact ⟨rfl, congrArg Value.bool ((decide_eq_false (by omega)).trans HB2.out)⟩
  case rest =>
    obtain ⟨rfl, rfl⟩ := hcut
    go_upto_if 25 with fail
    go_cut [9] (fun v9 wx => w = wx ∧ v9 = .int .u64 b1)
    case first =>
      cases z1
      · have HB2 : Hid ((10 : Int) = (b1 : Int)) := Lib.hid (by
          rw [HB1.out, HH.out.1, if_neg]; rfl
          rintro ⟨h, h2⟩
          have h3 := HZ1.out
          have h4 := HT.out
          cases h
          simp at h3
          omega)
        go_wp2_with fail
        go_meet
        exact ⟨rfl, vi HB2.out⟩
      · have HB2 : Hid ((8 : Int) = (b1 : Int)) := Lib.hid (by
          have h3 := HZ1.out
          have h4 := HT.out
          simp at h3
          have hc48 : c = 48 := by rw [← UInt8.toNat_inj]; show c.toNat = 48; omega
          rw [HB1.out, HH.out.1, if_pos ⟨by rw [hc48], by omega⟩]; rfl)
        go_wp2_with fail
        go_meet
        exact ⟨rfl, vi HB2.out⟩
    case rest =>
      obtain ⟨rfl, rfl⟩ := hcut
      go_upto_region 4 with fail
      obtain ⟨z2, hz2⟩ : ∃ z2 : Bool, z2 = hexy L := ⟨_, rfl⟩
      have HZ2 := Lib.hid hz2
      clear hz2
      have HX : Hid (∀ x, (¬ (c = 48 ∧ (x = 120 ∨ x = 88)) → (L = c :: x :: s.data.toList.drop (k + 2) ∨ L = [c]) → false = z2)) := Lib.hid (fun x hx hl => by
        rw [HZ2.out]
        symm
        rw [Bool.eq_false_iff]
        intro h
        obtain ⟨y, r, e, hy⟩ := hexy_form h
        rcases hl with hl | hl
        · rw [hl] at e; cases e; exact hx ⟨rfl, hy⟩
        · rw [hl] at e; cases e)
      go_cut [50] (fun v50 wx => w = wx ∧ v50 = .bool z2)
      case first =>
        cases g0 : (c.toNat : Int) == 48
        · have HE : Hid (false = z2) := Lib.hid (by
            have hn : c ≠ 48 := fun h => by rw [h] at g0; simp at g0
            by_cases h1 : k + 1 < s.size
            · exact HX.out s[k + 1] (fun h => hn h.1) (.inl (by rw [HH.out.2.1, drop_byte s (k + 1) h1]))
            · exact HX.out 0 (fun h => hn h.1) (.inr (by rw [HH.out.2.1, List.drop_eq_nil_of_le (by simp; omega)])))
          go_wp2_with fail
          go_meet
          exact ⟨rfl, congrArg Value.bool HE.out⟩
        · have hc48 : c = 48 := by rw [← UInt8.toNat_inj]; have := beq_iff_eq.1 g0; show c.toNat = 48; omega
          by_cases h1 : k + 1 < s.size
          · have h1i : (k : Int) + 1 < (s.size : Int) := by omega
            obtain ⟨x, hx⟩ : ∃ x, s[k + 1] = x := ⟨_, rfl⟩
            have HL2 := Lib.hid (show L = c :: x :: s.data.toList.drop (k + 2) by rw [HH.out.2.1, drop_byte s (k + 1) h1, hx])
            cases g1 : (x.toNat : Int) == 120
            · have n1 : x ≠ 120 := fun h => by rw [h] at g1; simp at g1
              cases g2 : (x.toNat : Int) == 88
              · have n2 : x ≠ 88 := fun h => by rw [h] at g2; simp at g2
                have HE := Lib.hid (HX.out x (fun h => h.2.elim n1 n2) (.inl HL2.out))
                clear hc48 n1 n2
                go_wp2_with fail
                go_meet
                exact ⟨rfl, congrArg Value.bool HE.out⟩
              · have n2 : x = 88 := by rw [← UInt8.toNat_inj]; have := beq_iff_eq.1 g2; show x.toNat = 88; omega
                have HE : Hid (true = z2) := Lib.hid (by rw [HZ2.out, HL2.out, hc48]; exact (hexy_of (.inr n2)).symm)
                clear hc48 n1 n2
                go_wp2_with fail
                go_meet
                exact ⟨rfl, congrArg Value.bool HE.out⟩
            · have n2 : x = 120 := by rw [← UInt8.toNat_inj]; have := beq_iff_eq.1 g1; show x.toNat = 120; omega
              have HE : Hid (true = z2) := Lib.hid (by rw [HZ2.out, HL2.out, hc48]; exact (hexy_of (.inl n2)).symm)
              clear hc48 n2
              go_wp2_with fail
              go_meet
              exact ⟨rfl, congrArg Value.bool HE.out⟩
          · have h1i : ¬ (k : Int) + 1 < (s.size : Int) := by omega
            have HE := Lib.hid (HX.out 0 (fun h => absurd h.2 (by decide)) (.inr (by rw [HH.out.2.1, List.drop_eq_nil_of_le (by simp; omega)])))
            clear hc48
            go_wp2_with fail
            go_meet
            exact ⟨rfl, congrArg Value.bool HE.out⟩
      case rest =>
        obtain ⟨rfl, rfl⟩ := hcut
        clear HX
        go_upto_if 50 with fail
        go_cut [7, 8, 9] (fun v7 v8 v9 wx => w = wx ∧ v7 = .int .i64 F ∧ v8 = .int .i64 E ∧ v9 = .int .u64 B)
        case first =>
          cases z2
          · have HE : Hid ((k : Int) = F ∧ (t : Int) = E ∧ (b1 : Int) = B) := Lib.hid (by
              have h1 := HF.out
              have h2 := HB1.out
              have h3 := HT.out
              unfold numF numE numB at h1
              rw [← HZ2.out] at h1
              simp only [Bool.false_eq_true, if_false] at h1
              rw [← h2] at h1
              omega)
            go_wp2_with fail
            go_meet
            exact ⟨rfl, vi HE.out.1, vi HE.out.2.1, vi HE.out.2.2⟩
          · have h2k : k + 2 ≤ s.size := by
              obtain ⟨y, r, e, hy⟩ := hexy_form HZ2.out.symm
              have h1 := HL.out.2
              rw [← HH.out.2.2, e] at h1
              simp at h1
              omega
            have HE : Hid ((k : Int) + 2 = F ∧ (k + 2 + ((s.data.toList.drop (k + 2)).takeWhile isHex).length : Nat) = E ∧ (16 : Int) = B) := Lib.hid (by
              have h1 := HF.out
              unfold numF numE numB at h1
              rw [← HZ2.out] at h1
              simp only [if_true] at h1
              have e2 : List.drop 2 L = s.data.toList.drop (k + 2) := by rw [HH.out.2.2, List.drop_drop]
              rw [e2] at h1
              omega)
            go_wp2_with (go_at_call 45; refine (rrun_hex s (k + 2) _ (by omega) h2k).mono ?_; rintro e w' ⟨rfl, rfl⟩; rw [HE.out.2.1])
            go_meet
            exact ⟨rfl, vi HE.out.1, rfl, vi HE.out.2.2⟩
        case rest =>
          obtain ⟨rfl, rfl, rfl, rfl⟩ := hcut
          obtain ⟨z3, hz3⟩ : ∃ z3 : Bool, z3 = true ↔ NumBad L := by
            by_cases h : NumBad L
            · exact ⟨true, by simp [h]⟩
            · exact ⟨false, by simp [h]⟩
          have HZT : Hid (NumBad L → true = z3) := Lib.hid (fun h => (hz3.2 h).symm)
          have HZF : Hid (¬ NumBad L → false = z3) := Lib.hid (fun h => by cases z3 with | false => rfl | true => exact absurd (hz3.1 rfl) h)
          have HZ3 := Lib.hid hz3
          clear hz3
          go_upto_region 7 with fail
          go_cut [81] (fun v81 wx => w = wx ∧ v81 = .bool z3)
          case first =>
            clear HZ3 HBG
            cases q1 : (F : Int) == (E : Int)
            · have HNE : Hid (numF L ≠ numE L) := Lib.hid (fun h => by have h1 := HF.out; have : (F : Int) = E := by omega
                                                                       rw [this] at q1; simp at q1)
              by_cases hes : E < s.size
              · have hesi : (E : Int) < (s.size : Int) := by omega
                have HL2 : Hid (L[numE L]? = some (s[E])) := Lib.hid (by
                  rw [← byte_here s E hes]
                  have h1 := HF.out
                  generalize numE L = y at h1
                  rw [HH.out.2.2, List.getElem?_drop, ← h1.2.1])
                cases q2 : isWord s[E]
                · have HW := Lib.hid q2
                  have HN : Hid (∀ d, L[numE L]? = some d → isWord d = false) := Lib.hid (fun d hd => by rw [HL2.out] at hd; cases hd; exact q2)
                  clear q2
                  cases q8 : (B : Int) == 8
                  · have HB8 := Lib.hid (show B ≠ 8 from fun h => by rw [h] at q8; simp at q8)
                    have HZ : Hid (false = z3) := Lib.hid (HZF.out (not_bad HNE.out HN.out (fun h => absurd (HF.out.2.2.trans h) HB8.out)))
                    go_wp2_with (first | (go_at_call 44; refine (rin_word _ _).mono ?_; rintro e w' ⟨rfl, rfl⟩; rw [HW.out]) | (go_at_call 45; refine (HRun8.out _).mono ?_; rintro e w' ⟨rfl, rfl⟩))
                    go_meet
                    exact ⟨rfl, congrArg Value.bool HZ.out⟩
                  · have HB8 := Lib.hid (show B = 8 by have := beq_iff_eq.1 q8; omega)
                    cases q9 : (R8 : Int) != (E : Int)
                    · have HR9 : Hid (R8 = E) := Lib.hid (by simp at q9; omega)
                      have HZ : Hid (false = z3) := Lib.hid (HZF.out (not_bad HNE.out HN.out (fun h => by have h1 := HF.out; have h2 := HR8.out; have h3 := HR9.out; omega)))
                      go_wp2_with (first | (go_at_call 44; refine (rin_word _ _).mono ?_; rintro e w' ⟨rfl, rfl⟩; rw [HW.out]) | (go_at_call 45; refine (HRun8.out _).mono ?_; rintro e w' ⟨rfl, rfl⟩))
                      go_meet
                      exact ⟨rfl, congrArg Value.bool HZ.out⟩
                    · have HR9 : Hid (R8 ≠ E) := Lib.hid (by simp at q9; omega)
                      have HZ : Hid (true = z3) := Lib.hid (HZT.out (.inr (.inr ⟨HF.out.2.2.symm.trans HB8.out, by have h1 := HF.out; have h2 := HR8.out; have h3 := HR9.out; omega⟩)))
                      go_wp2_with (first | (go_at_call 44; refine (rin_word _ _).mono ?_; rintro e w' ⟨rfl, rfl⟩; rw [HW.out]) | (go_at_call 45; refine (HRun8.out _).mono ?_; rintro e w' ⟨rfl, rfl⟩))
                      go_meet
                      exact ⟨rfl, congrArg Value.bool HZ.out⟩
                · have HW := Lib.hid q2
                  clear q2
                  have HZ : Hid (true = z3) := Lib.hid (HZT.out (.inr (.inl ⟨_, HL2.out, HW.out⟩)))
                  go_wp2_with (first | (go_at_call 44; refine (rin_word _ _).mono ?_; rintro e w' ⟨rfl, rfl⟩; rw [HW.out]) | (go_at_call 45; refine (HRun8.out _).mono ?_; rintro e w' ⟨rfl, rfl⟩))
                  go_meet
                  exact ⟨rfl, congrArg Value.bool HZ.out⟩
              · have hesi : ¬ (E : Int) < (s.size : Int) := by omega
                have HW : Hid (True = True) := Lib.hid rfl
                have HN : Hid (∀ d, L[numE L]? = some d → isWord d = false) := Lib.hid (fun d hd => by
                  have h1 := HF.out
                  have h2 := HL.out.2
                  rw [← HH.out.2.2] at h2
                  rw [List.getElem?_eq_none (by omega)] at hd
                  cases hd)
                cases q8 : (B : Int) == 8
                · have HB8 := Lib.hid (show B ≠ 8 from fun h => by rw [h] at q8; simp at q8)
                  have HZ : Hid (false = z3) := Lib.hid (HZF.out (not_bad HNE.out HN.out (fun h => absurd (HF.out.2.2.trans h) HB8.out)))
                  go_wp2_with (first | (go_at_call 44; refine (rin_word _ _).mono ?_; rintro e w' ⟨rfl, rfl⟩; rw [HW.out]) | (go_at_call 45; refine (HRun8.out _).mono ?_; rintro e w' ⟨rfl, rfl⟩))
                  go_meet
                  exact ⟨rfl, congrArg Value.bool HZ.out⟩
                · have HB8 := Lib.hid (show B = 8 by have := beq_iff_eq.1 q8; omega)
                  cases q9 : (R8 : Int) != (E : Int)
                  · have HR9 : Hid (R8 = E) := Lib.hid (by simp at q9; omega)
                    have HZ : Hid (false = z3) := Lib.hid (HZF.out (not_bad HNE.out HN.out (fun h => by have h1 := HF.out; have h2 := HR8.out; have h3 := HR9.out; omega)))
                    go_wp2_with (first | (go_at_call 44; refine (rin_word _ _).mono ?_; rintro e w' ⟨rfl, rfl⟩; rw [HW.out]) | (go_at_call 45; refine (HRun8.out _).mono ?_; rintro e w' ⟨rfl, rfl⟩))
                    go_meet
                    exact ⟨rfl, congrArg Value.bool HZ.out⟩
                  · have HR9 : Hid (R8 ≠ E) := Lib.hid (by simp at q9; omega)
                    have HZ : Hid (true = z3) := Lib.hid (HZT.out (.inr (.inr ⟨HF.out.2.2.symm.trans HB8.out, by have h1 := HF.out; have h2 := HR8.out; have h3 := HR9.out; omega⟩)))
                    go_wp2_with (first | (go_at_call 44; refine (rin_word _ _).mono ?_; rintro e w' ⟨rfl, rfl⟩; rw [HW.out]) | (go_at_call 45; refine (HRun8.out _).mono ?_; rintro e w' ⟨rfl, rfl⟩))
                    go_meet
                    exact ⟨rfl, congrArg Value.bool HZ.out⟩
            · have HW : Hid (True = True) := Lib.hid rfl
              have HZ : Hid (true = z3) := Lib.hid (HZT.out (.inl (by have h1 := HF.out; have := beq_iff_eq.1 q1; omega)))
              go_wp2_with (first | (go_at_call 44; refine (rin_word _ _).mono ?_; rintro e w' ⟨rfl, rfl⟩; rw [HW.out]) | (go_at_call 45; refine (HRun8.out _).mono ?_; rintro e w' ⟨rfl, rfl⟩))
              go_meet
              exact ⟨rfl, congrArg Value.bool HZ.out⟩
          case rest =>
            obtain ⟨rfl, rfl⟩ := hcut
            cases z3
            · have HG := Lib.hid (HBG.out.2 (fun h => by have := HZT.out h; cases this))
              obtain ⟨r, hr⟩ : ∃ r, s.extract F E = r := ⟨_, rfl⟩
              have hrs : r.size ≤ 2147483640 := by rw [← hr]; simp; omega
              have HP : Hid (r.data.toList = numPart L) := Lib.hid (by
                have h1 := HF.out
                have h2 : E - F = numE L - numF L := by omega
                rw [← hr, extract_list, numPart, h2, h1.1]
                generalize numE L - numF L = y
                generalize numF L = x
                rw [HH.out.2.2, List.drop_drop])
              have HBC := Lib.hid (show B = 8 ∨ B = 10 ∨ B = 16 by rw [HF.out.2.2]; exact numB_cases L)
              obtain ⟨V, hV⟩ : ∃ V, V = valOf B r.data.toList := ⟨_, rfl⟩
              have HV := Lib.hid (fun w => (by have h := rvalue_any B r w HBC.out hrs (by rw [HP.out]; exact List.all_eq_true.1 HG.out.2.1); rw [← hV] at h; exact h : Calls Tryz.prog 61 #[.string r, .int .u64 B] w fun e w' => e = rval V ∧ w = w'))
              have HV3 : Hid (V = valOf (numB L) (numPart L)) := Lib.hid (by rw [hV, HP.out, HF.out.2.2])
              clear hV
              by_cases hb : V < 18446744073709551616
              · have HQ : Hid (∀ e, e = Ending.returned (.tuple #[.int .u64 V, .int .i64 E, .int .i64 0]) → RNumPost k N R w e w) := Lib.hid (fun e he => ⟨rfl, by rw [HG.out.2.2, ← HV3.out, if_neg (by omega)]; rw [he, HG.out.1, ← HF.out.2.1]⟩)
                have HV2 := Lib.hid (fun w => (by have h := HV.out w; unfold rval at h; rw [if_pos hb] at h; exact h : Calls Tryz.prog 61 #[.string r, .int .u64 B] w fun e w' => e = .returned (.tuple #[.int .u64 V, .bool true]) ∧ w = w'))
                clear hb
                go_wp2_with (go_at_call 61; refine (HV2.out _).mono ?_; rintro e w' ⟨rfl, rfl⟩)
                go_ret3
                exact HQ.out _ rfl
              · have HQ : Hid (∀ e, e = Ending.returned (.tuple #[.int .u64 0, .int .i64 k, .int .i64 4]) → RNumPost k N R w e w) := Lib.hid (fun e he => ⟨rfl, by rw [HG.out.2.2, ← HV3.out, if_pos (by omega)]; exact he⟩)
                have HV2 := Lib.hid (fun w => (by have h := HV.out w; unfold rval at h; rw [if_neg hb] at h; exact h : Calls Tryz.prog 61 #[.string r, .int .u64 B] w fun e w' => e = .returned (.tuple #[.int .u64 0, .bool false]) ∧ w = w'))
                clear hb
                go_wp2_with (go_at_call 61; refine (HV2.out _).mono ?_; rintro e w' ⟨rfl, rfl⟩)
                go_ret3
                exact HQ.out _ rfl
            · have HQ : Hid (∀ e, e = Ending.returned (.tuple #[.int .u64 0, .int .i64 k, .int .i64 240]) → RNumPost k N R w e w) := Lib.hid (fun e he => ⟨rfl, by rw [HBG.out.1 (HZ3.out.1 rfl)]; exact he⟩)
              go_wp2_with fail
              go_ret3
              exact HQ.out _ rfl

/-- escape: the byte, behind it, true; or false. -/
def REscPost (k : Nat) (r : Option (UInt8 × Nat)) (w : World) (e : Ending) (w' : World) : Prop :=
  Fr No w w' ∧ match r with
  | some (x, n) => e = .returned (.tuple #[.int .u8 x.toNat, .int .i64 ((k + n : Nat)), .bool true])
  | none => ∃ (b n : Int), e = .returned (.tuple #[.int .u8 b, .int .i64 n, .bool false])
theorem at_list {P : ByteArray} {l : Bytes} (h : P.data.toList = l) (i : Nat) (hi : i < l.length) : ∃ hP : i < P.size, P[i] = l[i] := by
  have h1 : i < P.size := by rw [← h] at hi; simpa using hi
  refine ⟨h1, ?_⟩
  have h2 := byte_here P i h1
  rw [h, List.getElem?_eq_getElem hi] at h2
  exact (Option.some.inj h2).symm
set_option maxRecDepth 100000 in
set_option maxHeartbeats 8000000 in
theorem rescape_any (s : ByteArray) (k : Nat) (w : World) (hs : s.size ≤ 2147483000) (hk : k ≤ s.size) :
    Calls Tryz.prog 62 #[.string s, .int .i64 k] w (REscPost k (escape (s.data.toList.drop k)) w) := by
  by_cases hlt : k < s.size
  · obtain ⟨c, hc⟩ : ∃ c, s[k] = c := ⟨_, rfl⟩
    have hd := drop_byte s k hlt
    rw [hc] at hd
    obtain ⟨R, hR⟩ : ∃ R, R = escape (s.data.toList.drop k) := ⟨_, rfl⟩
    rw [← hR]
    obtain ⟨P, hP⟩ : ∃ P : ByteArray, P = ⟨#[97, 98, 102, 110, 114, 116, 118, 92, 39, 34]⟩ := ⟨_, rfl⟩
    obtain ⟨M, hM⟩ : ∃ M : ByteArray, M = ⟨#[7, 8, 12, 10, 13, 9, 11, 92, 39, 34]⟩ := ⟨_, rfl⟩
    have hPs : P.size = 10 := by rw [hP]; rfl
    have hMs : M.size = 10 := by rw [hM]; rfl
    have HPM := Lib.hid (And.intro hP hM)
    have HR := Lib.hid hR
    have HD := Lib.hid hd
    clear hP hM hR hd
    go_enter Tryz.func62, Tryz.ntmps62
    go_wp2_with fail
    rw [← HPM.out.1, ← HPM.out.2]
    go_loopg [9] 10 (fun g v9 wr => ∃ i n : Nat, w.drewN n = wr ∧ v9 = .int .i64 i ∧ i ≤ 10 ∧ Hid (∀ (j : Nat) (h : j < 10), j < i → plainP[j]'h ≠ c) ∧ g + i = 10)
    case atStart => exact ⟨0, 0, rfl, rfl, by omega, Lib.hid (fun j h hj => absurd hj (Nat.not_lt_zero _)), by omega⟩
    case round =>
      obtain ⟨i, n, rfl, rfl, hi, HN, hg⟩ := hrel
      have HG := Lib.hid hg
      clear hg
      by_cases hil : i < 10
      · obtain ⟨hiP, hPi⟩ := at_list (l := plainP) (by rw [HPM.out.1]; rfl : P.data.toList = plainP) i hil
        obtain ⟨hiM, hMi⟩ := at_list (l := plainM) (by rw [HPM.out.2]; rfl : M.data.toList = plainM) i hil
        obtain ⟨d, hdd⟩ : ∃ d, P[i] = d := ⟨_, rfl⟩
        obtain ⟨m, hmm⟩ : ∃ m, M[i] = m := ⟨_, rfl⟩
        have HE := Lib.hid (And.intro (hPi.symm.trans hdd) (hMi.symm.trans hmm))
        clear hPi hMi
        cases g0 : (d.toNat : Int) == (c.toNat : Int)
        · have HN2 : Hid (∀ (j : Nat) (h : j < 10), j < i + 1 → plainP[j]'h ≠ c) := Lib.hid (fun j h hj => by
            by_cases e : j = i
            · subst e
              rw [HE.out.1]
              intro e2
              rw [e2] at g0; simp at g0
            · exact HN.out j h (by omega))
          clear HN
          go_wp2_with (first | go_quiet (fail))
          go_roundg (gk - 1)
          case measure => have := HG.out; omega
          case rel => exact ⟨i + 1, _, rfl, by go_num, by omega, HN2, by have := HG.out; omega⟩
        · have HQ : Hid (R = some (m, 1)) := Lib.hid (by
            have e : d = c := by rw [← UInt8.toNat_inj]; have := beq_iff_eq.1 g0; omega
            have h1 := plain_at i hil
            rw [HE.out.1, HE.out.2, e] at h1
            rw [HR.out, HD.out, escape, h1])
          go_wp2_with (first | go_quiet (fail))
          go_ret3
          refine ⟨(Fr.refl _ _).drewN _, ?_⟩
          rw [HQ.out]
          rfl
      · have HX : Hid (escPlain c = none) := Lib.hid (plain_no c (fun j h => HN.out j h (by omega)))
        clear HN
        obtain ⟨z1, hz1⟩ : ∃ z1 : Bool, z1 = ((c.toNat : Int) == 120 || (c.toNat : Int) == 88) := ⟨_, rfl⟩
        have HZ := Lib.hid hz1
        clear hz1
        go_upto_region 10 with fail
        go_cut [49] (fun v49 wx => w.drewN n = wx ∧ v49 = .bool z1)
        case first =>
          cases g1 : (c.toNat : Int) == 120
          · cases g2 : (c.toNat : Int) == 88
            · have HE : Hid (false = z1) := Lib.hid (by rw [HZ.out, g1, g2]; rfl)
              go_wp2_with fail
              go_meet
              exact ⟨rfl, congrArg Value.bool HE.out⟩
            · have HE : Hid (true = z1) := Lib.hid (by rw [HZ.out, g1, g2]; rfl)
              go_wp2_with fail
              go_meet
              exact ⟨rfl, congrArg Value.bool HE.out⟩
          · have HE : Hid (true = z1) := Lib.hid (by rw [HZ.out, g1]; rfl)
            go_wp2_with fail
            go_meet
            exact ⟨rfl, congrArg Value.bool HE.out⟩
        case rest =>
          obtain ⟨rfl, rfl⟩ := hcut
          cases z1
          · have HXC : Hid (¬ (c = 120 ∨ c = 88)) := Lib.hid (by
              have h := HZ.out
              rintro (e | e) <;> (rw [e] at h; simp at h))
            obtain ⟨X, eX⟩ : ∃ X, k + ((s.data.toList.drop k).takeWhile isEight).length = X := ⟨_, rfl⟩
            have HR8 := Lib.hid (fun wx => (by have h := rrun_eight s k wx (by omega) (by omega); rw [eX] at h; exact h : Calls Tryz.prog 45 #[.string s, .int .i64 k, .string ⟨#[48, 49, 50, 51, 52, 53, 54, 55]⟩] wx fun e w' => e = .returned (.int .i64 (X : Nat)) ∧ wx = w'))
            obtain ⟨E, hE⟩ : ∃ E, E = min X (k + 3) := ⟨_, rfl⟩
            have hle := run_le isEight (s.data.toList.drop k)
            have hsz : s.data.toList.length = s.size := by simp
            rw [List.length_drop, hsz] at hle
            have hmin : min (X : Int) ((k : Int) + 3) = (E : Int) := by omega
            have hEs : E ≤ s.size := by omega
            have hkE : k ≤ E := by omega
            have HEN : Hid (E = k + escN c (s.data.toList.drop (k + 1))) := Lib.hid (by
              unfold escN
              rw [if_neg HXC.out]
              rw [← HD.out]
              omega)
            obtain ⟨r, hr⟩ : ∃ r, s.extract k E = r := ⟨_, rfl⟩
            have hrs : r.size ≤ 2147483640 := by rw [← hr]; simp; omega
            have HP : Hid (r.data.toList = escD c (s.data.toList.drop (k + 1))) := Lib.hid (by
              have h2 : E - k = escN c (s.data.toList.drop (k + 1)) := by have := HEN.out; omega
              rw [← hr, extract_list, h2]
              unfold escD
              rw [if_neg HXC.out]
              rw [← HD.out])
            obtain ⟨V, hV⟩ : ∃ V, V = valOf 8 r.data.toList := ⟨_, rfl⟩
            have HB8 : Hid (escB c = 8) := Lib.hid (by unfold escB; rw [if_neg HXC.out])
            have HF8 : Hid (escF c = 0) := Lib.hid (by unfold escF; rw [if_neg HXC.out])
            have hV1 : V = valOf (escB c) (escD c (s.data.toList.drop (k + 1))) := by rw [hV, HP.out, HB8.out]
            have hV2 : V < 4096 := by rw [hV1]; exact escD_val _ _
            have HV := Lib.hid (fun wx => (by have h := rvalue_8 r wx hrs (by rw [HP.out]; exact escD_hex _ _); rw [← hV] at h; unfold rval at h; rw [if_pos (by omega)] at h; exact h : Calls Tryz.prog 61 #[.string r, .int .u64 8] wx fun e w' => e = .returned (.tuple #[.int .u64 V, .bool true]) ∧ wx = w'))
            have HRE : Hid (R = if escN c (s.data.toList.drop (k + 1)) = 0 ∨ 256 ≤ V then none else some (UInt8.ofNat V, escF c + escN c (s.data.toList.drop (k + 1)))) := Lib.hid (by rw [HR.out, HD.out, escape_num HX.out, ← hV1])
            clear eX hE hle hsz hV hV1 
            by_cases hgt : k < E
            · have hgi : (k : Int) < (E : Int) := by omega
              by_cases hv : V < 256
              · have HQ : Hid (∀ e, e = Ending.returned (.tuple #[.int .u8 V, .int .i64 E, .bool true]) → ∀ q, REscPost k R w e (w.drewN q)) := Lib.hid (fun e he q => ⟨(Fr.refl _ _).drewN _, by
                  rw [HRE.out, if_neg (by have := HEN.out; omega), he]
                  dsimp only
                  rw [UInt8.toNat_ofNat', Nat.mod_eq_of_lt (by omega), HF8.out, show k + (0 + escN c (s.data.toList.drop (k + 1))) = E by have := HEN.out; omega]⟩)
                have hvi : (V : Int) < 256 := by omega
                go_wp2_with (first | (go_at_call 45; refine (HR8.out _).mono ?_; rintro e w' ⟨rfl, rfl⟩) | (go_at_call 61; refine (HV.out _).mono ?_; rintro e w' ⟨rfl, rfl⟩))
                go_ret3
                exact HQ.out _ rfl _
              · have HQ : Hid (∀ e, (∃ (b n : Int) (z : Bool), z = false ∧ e = Ending.returned (.tuple #[.int .u8 b, .int .i64 n, .bool z])) → ∀ q, REscPost k R w e (w.drewN q)) := Lib.hid (fun e he q => ⟨(Fr.refl _ _).drewN _, by
                  rw [HRE.out, if_pos (by omega)]
                  obtain ⟨b, n, z, hz, he⟩ := he; subst hz; exact ⟨b, n, he⟩⟩)
                have hvi : ¬ (V : Int) < 256 := by omega
                go_wp2_with (first | (go_at_call 45; refine (HR8.out _).mono ?_; rintro e w' ⟨rfl, rfl⟩) | (go_at_call 61; refine (HV.out _).mono ?_; rintro e w' ⟨rfl, rfl⟩))
                go_ret3
                exact HQ.out _ ⟨_, _, _, decide_eq_false (by omega), rfl⟩ _
            · have hgi : ¬ (k : Int) < (E : Int) := by omega
              have HQ : Hid (∀ e, (∃ (b n : Int), e = Ending.returned (.tuple #[.int .u8 b, .int .i64 n, .bool false])) → ∀ q, REscPost k R w e (w.drewN q)) := Lib.hid (fun e he q => ⟨(Fr.refl _ _).drewN _, by
                rw [HRE.out, if_pos (by have := HEN.out; omega)]
                exact he⟩)
              go_wp2_with (first | (go_at_call 45; refine (HR8.out _).mono ?_; rintro e w' ⟨rfl, rfl⟩) | (go_at_call 61; refine (HV.out _).mono ?_; rintro e w' ⟨rfl, rfl⟩))
              go_ret3
              exact HQ.out _ ⟨_, _, rfl⟩ _
          · have HXC : Hid ((c = 120 ∨ c = 88)) := Lib.hid (by
              have h := HZ.out
              rw [eq_comm, Bool.or_eq_true, beq_iff_eq, beq_iff_eq] at h
              rcases h with h | h
              · exact .inl (by rw [← UInt8.toNat_inj]; show c.toNat = 120; omega)
              · exact .inr (by rw [← UInt8.toNat_inj]; show c.toNat = 88; omega))
            obtain ⟨X, eX⟩ : ∃ X, (k + 1) + ((s.data.toList.drop (k + 1)).takeWhile isHex).length = X := ⟨_, rfl⟩
            obtain ⟨X8, eX8⟩ : ∃ X8, (k + 1) + ((s.data.toList.drop (k + 1)).takeWhile isEight).length = X8 := ⟨_, rfl⟩
            have HR8 := Lib.hid (fun wx => (by have h := rrun_eight s (k + 1) wx (by omega) (by omega); rw [eX8] at h; exact h : Calls Tryz.prog 45 #[.string s, .int .i64 ((k : Int) + 1), .string ⟨#[48, 49, 50, 51, 52, 53, 54, 55]⟩] wx fun e w' => e = .returned (.int .i64 (X8 : Nat)) ∧ wx = w'))
            have HR16 := Lib.hid (fun wx => (by have h := rrun_hex s (k + 1) wx (by omega) (by omega); rw [eX] at h; exact h : Calls Tryz.prog 45 #[.string s, .int .i64 ((k : Int) + 1), .string ⟨#[48, 49, 50, 51, 52, 53, 54, 55, 56, 57, 97, 98, 99, 100, 101, 102, 65, 66, 67, 68, 69, 70]⟩] wx fun e w' => e = .returned (.int .i64 (X : Nat)) ∧ wx = w'))
            obtain ⟨E, hE⟩ : ∃ E, E = min X (k + 3) := ⟨_, rfl⟩
            have hle := run_le isHex (s.data.toList.drop (k + 1))
            have hsz : s.data.toList.length = s.size := by simp
            rw [List.length_drop, hsz] at hle
            have hmin : min (X : Int) ((k : Int) + 1 + 2) = (E : Int) := by omega
            have hEs : E ≤ s.size := by omega
            have hkE : (k + 1) ≤ E := by omega
            have HEN : Hid (E = (k + 1) + escN c (s.data.toList.drop (k + 1))) := Lib.hid (by
              unfold escN
              rw [if_pos HXC.out]

              omega)
            obtain ⟨r, hr⟩ : ∃ r, s.extract (k + 1) E = r := ⟨_, rfl⟩
            have hrs : r.size ≤ 2147483640 := by rw [← hr]; simp; omega
            have HP : Hid (r.data.toList = escD c (s.data.toList.drop (k + 1))) := Lib.hid (by
              have h2 : E - (k + 1) = escN c (s.data.toList.drop (k + 1)) := by have := HEN.out; omega
              rw [← hr, extract_list, h2]
              unfold escD
              rw [if_pos HXC.out]
              )
            obtain ⟨V, hV⟩ : ∃ V, V = valOf 16 r.data.toList := ⟨_, rfl⟩
            have HB8 : Hid (escB c = 16) := Lib.hid (by unfold escB; rw [if_pos HXC.out])
            have HF8 : Hid (escF c = 1) := Lib.hid (by unfold escF; rw [if_pos HXC.out])
            have hV1 : V = valOf (escB c) (escD c (s.data.toList.drop (k + 1))) := by rw [hV, HP.out, HB8.out]
            have hV2 : V < 4096 := by rw [hV1]; exact escD_val _ _
            have HV := Lib.hid (fun wx => (by have h := rvalue_16 r wx hrs (by rw [HP.out]; exact escD_hex _ _); rw [← hV] at h; unfold rval at h; rw [if_pos (by omega)] at h; exact h : Calls Tryz.prog 61 #[.string r, .int .u64 16] wx fun e w' => e = .returned (.tuple #[.int .u64 V, .bool true]) ∧ wx = w'))
            have HRE : Hid (R = if escN c (s.data.toList.drop (k + 1)) = 0 ∨ 256 ≤ V then none else some (UInt8.ofNat V, escF c + escN c (s.data.toList.drop (k + 1)))) := Lib.hid (by rw [HR.out, HD.out, escape_num HX.out, ← hV1])
            clear eX hE hle hsz hV hV1 eX8
            by_cases hgt : (k + 1) < E
            · have hgi : (k : Int) + 1 < (E : Int) := by omega
              by_cases hv : V < 256
              · have HQ : Hid (∀ e, e = Ending.returned (.tuple #[.int .u8 V, .int .i64 E, .bool true]) → ∀ q, REscPost k R w e (w.drewN q)) := Lib.hid (fun e he q => ⟨(Fr.refl _ _).drewN _, by
                  rw [HRE.out, if_neg (by have := HEN.out; omega), he]
                  dsimp only
                  rw [UInt8.toNat_ofNat', Nat.mod_eq_of_lt (by omega), HF8.out, show k + (1 + escN c (s.data.toList.drop (k + 1))) = E by have := HEN.out; omega]⟩)
                have hvi : (V : Int) < 256 := by omega
                go_wp2_with fail
                refine (HR8.out _).mono ?_
                rintro e w' ⟨rfl, rfl⟩
                go_wp2_with fail
                refine (HR16.out _).mono ?_
                rintro e w' ⟨rfl, rfl⟩
                go_wp2_with fail
                refine (HV.out _).mono ?_
                rintro e w' ⟨rfl, rfl⟩
                go_wp2_with fail
                go_ret3
                exact HQ.out _ rfl _
              · have HQ : Hid (∀ e, (∃ (b n : Int) (z : Bool), z = false ∧ e = Ending.returned (.tuple #[.int .u8 b, .int .i64 n, .bool z])) → ∀ q, REscPost k R w e (w.drewN q)) := Lib.hid (fun e he q => ⟨(Fr.refl _ _).drewN _, by
                  rw [HRE.out, if_pos (by omega)]
                  obtain ⟨b, n, z, hz, he⟩ := he; subst hz; exact ⟨b, n, he⟩⟩)
                have hvi : ¬ (V : Int) < 256 := by omega
                go_wp2_with fail
                refine (HR8.out _).mono ?_
                rintro e w' ⟨rfl, rfl⟩
                go_wp2_with fail
                refine (HR16.out _).mono ?_
                rintro e w' ⟨rfl, rfl⟩
                go_wp2_with fail
                refine (HV.out _).mono ?_
                rintro e w' ⟨rfl, rfl⟩
                go_wp2_with fail
                go_ret3
                exact HQ.out _ ⟨_, _, _, decide_eq_false (by omega), rfl⟩ _
            · have hgi : ¬ (k : Int) + 1 < (E : Int) := by omega
              have HQ : Hid (∀ e, (∃ (b n : Int), e = Ending.returned (.tuple #[.int .u8 b, .int .i64 n, .bool false])) → ∀ q, REscPost k R w e (w.drewN q)) := Lib.hid (fun e he q => ⟨(Fr.refl _ _).drewN _, by
                rw [HRE.out, if_pos (by have := HEN.out; omega)]
                exact he⟩)
              go_wp2_with fail
              refine (HR8.out _).mono ?_
              rintro e w' ⟨rfl, rfl⟩
              go_wp2_with fail
              refine (HR16.out _).mono ?_
              rintro e w' ⟨rfl, rfl⟩
              go_wp2_with fail
              refine (HV.out _).mono ?_
              rintro e w' ⟨rfl, rfl⟩
              go_wp2_with fail
              go_ret3
              exact HQ.out _ ⟨_, _, rfl⟩ _
  · have HR : Hid (escape (s.data.toList.drop k) = none) := Lib.hid (by rw [List.drop_eq_nil_of_le (by simp; omega)]; rfl)
    obtain ⟨R, hR⟩ : ∃ R, R = escape (s.data.toList.drop k) := ⟨_, rfl⟩
    rw [← hR] at HR ⊢
    clear hR
    go_enter Tryz.func62, Tryz.ntmps62
    go_wp2_with fail
    go_ret3
    refine ⟨Fr.refl _ _, ?_⟩
    rw [HR.out]
    exact ⟨_, _, rfl⟩
end Go.Proofs.YtbdheihjnkfpiaaGreatDoor
