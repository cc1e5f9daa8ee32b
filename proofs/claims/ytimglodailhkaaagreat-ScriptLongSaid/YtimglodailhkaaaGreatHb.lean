/-
  Plain laws for the reader's digits: the row of bytes as it fills; which words are digits.
-/
import Derived.Test.YtimglodailhkaaaGreatWr
import Derived.Shelf.Strings.SlTrimAscii
namespace Go.Proofs.YtimglodailhkaaaGreat
open Go Go.RowKit
def dgN (c : UInt8) : Nat := (dig31 c).toNat
/-- What stands at place k, when i digits have been read. -/
def outF (y : Bytes) (i k : Nat) : UInt8 := if 2 * k + 1 < i then UInt8.ofNat (16 * dgN (y.getD (2 * k) 0) + dgN (y.getD (2 * k + 1) 0)) else if 2 * k < i then UInt8.ofNat (dgN (y.getD (2 * k) 0)) else 0
def outA (y : Bytes) (i n : Nat) : Array Value := Array.ofFn (n := n) fun k => .int .u8 (outF y i k.val).toNat
theorem outA_size (y : Bytes) (i n : Nat) : (outA y i n).size = n := by simp [outA]
theorem outA_at (y : Bytes) (i n k : Nat) (h : k < n) : (outA y i n)[k]? = some (.int .u8 (outF y i k).toNat) := by simp [outA, h]
theorem outF_other (y : Bytes) (i k : Nat) (h : ¬ k = i / 2) : outF y (i + 1) k = outF y i k := by
  unfold outF
  by_cases h1 : 2 * k + 1 < i
  · rw [if_pos h1, if_pos (by omega)]
  · by_cases h2 : 2 * k < i
    · exact absurd (show k = i / 2 by omega) h
    · rw [if_neg h1, if_neg h2, if_neg (by omega), if_neg (by omega)]
theorem outA_step (y : Bytes) (i n : Nat) : (outA y i n).setIfInBounds (i / 2) (.int .u8 (outF y (i + 1) (i / 2)).toNat) = outA y (i + 1) n := by
  apply Array.ext
  · simp [outA]
  · intro k h1 h2
    have hk : k < n := by simpa [outA] using h2
    rw [Array.getElem_setIfInBounds (by simpa [outA] using hk)]
    split
    · rename_i he
      subst he
      simp [outA]
    · rename_i he
      simp only [outA, Array.getElem_ofFn]
      rw [outF_other y i k (fun e => he e.symm)]
theorem outF_end (y : Bytes) (n k : Nat) (h : k < n) : outF y (2 * n) k = UInt8.ofNat (16 * dgN (y.getD (2 * k) 0) + dgN (y.getD (2 * k + 1) 0)) := by
  unfold outF; rw [if_pos (by omega)]
theorem bytesOf_at : ∀ (n : Nat) (y : Bytes), y.length = 2 * n → bytesOf y = (List.range n).map fun k => UInt8.ofNat (16 * dgN (y.getD (2 * k) 0) + dgN (y.getD (2 * k + 1) 0)) := by
  intro n
  induction n with
  | zero => intro y h; rw [List.eq_nil_of_length_eq_zero (by omega : y.length = 0)]; rfl
  | succ n ih =>
    intro y h
    match y, h with
    | [], h => simp at h
    | [_], h => simp at h; omega
    | a :: b :: l, h =>
      simp only [List.length_cons] at h
      rw [bytesOf, ih l (by omega), List.range_succ_eq_map, List.map_cons, List.map_map]
      congr 1
theorem outA_end (y : Bytes) (n : Nat) (h : y.length = 2 * n) : (outA y (2 * n) n).toList = (bytesOf y).map fun c => Value.int .u8 c.toNat := by
  rw [bytesOf_at n y h, List.map_map]
  apply List.ext_getElem
  · simp [outA]
  · intro k h1 h2
    have hk : k < n := by simpa [outA] using h1
    simp [outA, outF_end y n k hk]
theorem outA_start (y : Bytes) (n : Nat) : outA y 0 n = Array.replicate n (.int .u8 0) := by
  apply Array.ext
  · simp [outA]
  · intro k h1 h2
    simp [outA, outF]
theorem bytesOf_len (n : Nat) (y : Bytes) (h : y.length = 2 * n) : (bytesOf y).length = n := by rw [bytesOf_at n y h]; simp
/-- The value that is stored next. -/
theorem outF_next (y : Bytes) (i : Nat) : ((outF y (i + 1) (i / 2)).toNat : Int) = (16 * ((outF y i (i / 2)).toNat : Int)) % 256 + (dgN (y.getD i 0) : Int) ∧ (outF y i (i / 2)).toNat < 16 := by
  have hd := dig_lt (y.getD i 0)
  unfold dgN
  rcases Nat.mod_two_eq_zero_or_one i with h | h
  · have e : 2 * (i / 2) = i := by omega
    have e0 : outF y i (i / 2) = 0 := by unfold outF; rw [if_neg (by omega), if_neg (by omega)]
    have e1 : outF y (i + 1) (i / 2) = UInt8.ofNat (dig31 (y.getD i 0)).toNat := by unfold outF dgN; rw [if_neg (by omega), if_pos (by omega), e]
    rw [e0, e1, UInt8.toNat_ofNat']
    constructor
    · show _ = (16 * ((0 : Nat) : Int)) % 256 + _
      omega
    · decide
  · have e : 2 * (i / 2) + 1 = i := by omega
    have hd2 := dig_lt (y.getD (2 * (i / 2)) 0)
    have e0 : outF y i (i / 2) = UInt8.ofNat (dig31 (y.getD (2 * (i / 2)) 0)).toNat := by unfold outF dgN; rw [if_neg (by omega), if_pos (by omega)]
    have e1 : outF y (i + 1) (i / 2) = UInt8.ofNat (16 * (dig31 (y.getD (2 * (i / 2)) 0)).toNat + (dig31 (y.getD i 0)).toNat) := by unfold outF dgN; rw [if_pos (by omega), e]
    rw [e0, e1, UInt8.toNat_ofNat', UInt8.toNat_ofNat']
    omega
/-- Where a digit stands among the sixteen. -/
def sixteenL : Bytes := [48, 49, 50, 51, 52, 53, 54, 55, 56, 57, 97, 98, 99, 100, 101, 102]
theorem hex_index (c : UInt8) (h : isHexD c = true) : Lib.indexByte sixteenL c = (dgN c : Int) := by
  have hall : ∀ k : Fin 256, isHexD (UInt8.ofNat k.val) = true → Lib.indexByte sixteenL (UInt8.ofNat k.val) = (dgN (UInt8.ofNat k.val) : Int) := by decide +kernel
  have h2 := hall ⟨c.toNat, c.toNat_lt⟩
  simp only [UInt8.ofNat_toNat] at h2
  exact h2 h
theorem hex_in (c : UInt8) : sixteenL.contains c = isHexD c := by
  have hall : ∀ k : Fin 256, sixteenL.contains (UInt8.ofNat k.val) = isHexD (UInt8.ofNat k.val) := by decide +kernel
  have h2 := hall ⟨c.toNat, c.toNat_lt⟩
  simp only [UInt8.ofNat_toNat] at h2
  exact h2
theorem hex_ascii (c : UInt8) (h : isHexD c = true) : c.toNat < 128 := by
  unfold isHexD at h
  simp only [Bool.or_eq_true, Bool.and_eq_true, decide_eq_true_eq] at h
  omega
theorem drop_all {p : UInt8 → Bool} : ∀ (l : Bytes), l.dropWhile p = [] ↔ l.all p = true := by
  intro l
  induction l with
  | nil => simp
  | cons a l ih =>
    rw [List.dropWhile_cons, List.all_cons]
    cases h : p a
    · simp
    · simp [ih]
theorem trim_hex (y : Bytes) : Lib.trimS y sixteenL = [] ↔ y.all isHexD = true := by
  unfold Lib.trimS Lib.trimLeftS Lib.trimRightS
  have e : (fun x => sixteenL.contains x) = isHexD := funext hex_in
  rw [e, drop_all]
  constructor
  · intro h
    by_cases h2 : (y.reverse.dropWhile isHexD).reverse = []
    · rw [List.reverse_eq_nil_iff, drop_all] at h2
      rwa [List.all_reverse] at h2
    · exfalso
      have h3 : y.reverse.dropWhile isHexD ≠ [] := fun e => h2 (by rw [e]; rfl)
      have h4 := List.head_dropWhile_not isHexD h3
      rw [List.all_reverse, List.all_eq_true] at h
      have h5 := h _ (List.head_mem h3)
      rw [h5] at h4
      simp at h4
  · intro h
    have h2 : y.reverse.dropWhile isHexD = [] := by rw [drop_all, List.all_reverse]; exact h
    rw [h2]; rfl
end Go.Proofs.YtimglodailhkaaaGreat
