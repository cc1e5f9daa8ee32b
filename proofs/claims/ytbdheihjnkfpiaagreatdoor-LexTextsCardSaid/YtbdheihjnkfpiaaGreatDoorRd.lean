/-
  Where bytes of a kind end, and where a word ends.
-/
import Derived.Test.YtbdheihjnkfpiaaGreatDoorRc
import Derived.Test.YtbdheihjnkfpiaaGreatDoorWk
namespace Go.Proofs.YtbdheihjnkfpiaaGreatDoor
open Go Go.RowKit
/-- Where bytes of a kind that belong to words end: either a word's byte follows, and the word is not all of that kind; or the word ends there too. -/
theorem word_run (p : UInt8 → Bool) (hp : ∀ c, p c = true → isWord c = true) : ∀ (l : Bytes),
    ((∃ d, l[(l.takeWhile p).length]? = some d ∧ isWord d = true) → (l.take (wordLen l)).all p = false) ∧
    ((∀ d, l[(l.takeWhile p).length]? = some d → isWord d = false) → wordLen l = (l.takeWhile p).length ∧ (l.take (wordLen l)).all p = true)
  | [] => by simp [wordLen]
  | c :: l => by
    have ih := word_run p hp l
    by_cases h : p c = true
    · have hw := hp c h
      rw [List.takeWhile_cons, if_pos h, wordLen_cons, if_pos hw]
      simp only [List.length_cons, List.getElem?_cons_succ, List.take_succ_cons, List.all_cons, h, Bool.true_and]
      exact ⟨ih.1, fun hd => ⟨by rw [(ih.2 hd).1], (ih.2 hd).2⟩⟩
    · have h' : p c = false := by simpa using h
      rw [List.takeWhile_cons, if_neg h]
      simp only [List.length_nil, List.getElem?_cons_zero, Option.some.injEq]
      constructor
      · rintro ⟨d, rfl, hd⟩
        rw [wordLen_cons, if_pos hd]
        simp [h']
      · intro hd
        have := hd c rfl
        rw [wordLen_cons, this]
        simp
theorem ten_word (c : UInt8) (h : isTen c = true) : isWord c = true := by
  have h1 := (ten_mem c).2 h
  simp only [tenB, List.mem_cons, List.mem_nil_iff, or_false] at h1
  rcases h1 with rfl | rfl | rfl | rfl | rfl | rfl | rfl | rfl | rfl | rfl <;> decide
theorem eight_ten (c : UInt8) (h : isEight c = true) : isTen c = true := by
  have h1 := (eight_mem c).2 h
  simp only [eightB, List.mem_cons, List.mem_nil_iff, or_false] at h1
  rcases h1 with rfl | rfl | rfl | rfl | rfl | rfl | rfl | rfl <;> decide
theorem hex_word (c : UInt8) (h : isHex c = true) : isWord c = true := by
  have h1 := (hex_mem c).2 h
  simp only [hexB, List.mem_cons, List.mem_nil_iff, or_false] at h1
  rcases h1 with rfl | rfl | rfl | rfl | rfl | rfl | rfl | rfl | rfl | rfl | rfl | rfl | rfl | rfl | rfl | rfl | rfl | rfl | rfl | rfl | rfl | rfl <;> decide
/-- Letters and tens, as the document's answer lists them. -/
def wordB : Bytes := [97, 98, 99, 100, 101, 102, 103, 104, 105, 106, 107, 108, 109, 110, 111, 112, 113, 114, 115, 116, 117, 118, 119, 120, 121, 122, 65, 66, 67, 68, 69, 70, 71, 72, 73, 74, 75, 76, 77, 78, 79, 80, 81, 82, 83, 84, 85, 86, 87, 88, 89, 90, 95, 48, 49, 50, 51, 52, 53, 54, 55, 56, 57]
theorem word_mem (c : UInt8) : wordB.contains c = isWord c := by
  rw [Bool.eq_iff_iff]
  unfold isWord cls classN
  simp only [List.contains_iff_mem, wordB, List.mem_cons, List.mem_nil_iff, or_false, ← UInt8.toNat_inj, Bool.or_eq_true, beq_iff_eq]
  simp
  generalize c.toNat = x
  constructor
  · intro h
    repeat' split
    all_goals omega
  · intro h
    repeat' split at h
    all_goals omega
theorem tens_fun : (tenB.contains ·) = isTen := by
  funext c; rw [Bool.eq_iff_iff, List.contains_iff_mem]; exact ten_mem c
theorem eights_fun : (eightB.contains ·) = isEight := by
  funext c; rw [Bool.eq_iff_iff, List.contains_iff_mem]; exact eight_mem c
theorem hexs_fun : (hexB.contains ·) = isHex := by
  funext c; rw [Bool.eq_iff_iff, List.contains_iff_mem]; exact hex_mem c
end Go.Proofs.YtbdheihjnkfpiaaGreatDoor
