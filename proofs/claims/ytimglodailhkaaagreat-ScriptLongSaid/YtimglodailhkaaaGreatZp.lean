/-
  Plain facts for the bounds of scripts: rows of 'connect', and events of a mebibyte.
-/
import Derived.Test.YtimglodailhkaaaGreatZa
namespace Go.Proofs.YtimglodailhkaaaGreat
def connE : Ev := ⟨1, 0, [], [], []⟩
/-- The text of n events 'connect'. -/
def conns (n : Nat) : Bytes := lines31 (List.replicate n connE)
theorem conns_zero : conns 0 = [] := rfl
theorem conns_succ (n : Nat) : conns (n + 1) = connectB ++ 10 :: conns n := by
  unfold conns lines31
  rw [List.replicate_succ, List.flatMap_cons]
  rfl
theorem conns_snoc : ∀ n, conns n ++ [99, 111, 110, 110, 101, 99, 116, 10] = conns (n + 1)
  | 0 => rfl
  | n + 1 => by
    have h := conns_snoc n
    rw [conns_succ (n + 1), ← h]
    rw [show conns n ++ [99, 111, 110, 110, 101, 99, 116, 10] = connectB ++ 10 :: conns n from by rw [h, conns_succ]]
    rw [List.append_assoc, List.cons_append, h, conns_succ]
theorem conns_len : ∀ n, (conns n).length = 8 * n
  | 0 => rfl
  | n + 1 => by rw [conns_succ, List.length_append, List.length_cons, conns_len n]; simp only [connectB, List.length_cons, List.length_nil]; omega
theorem conn_may : may31 connE = true := by decide
theorem conn_read : read31 connectB = some connE := by
  have h := sread_line (e := connE) conn_may ⟨by unfold i64 connE; exact ⟨by decide, by decide⟩, by simp [connE], by simp [connE]⟩
  rw [sread_read] at h
  exact h
theorem conns_cut (n : Nat) : Lib.cut (conns (n + 1)) [10] = (connectB, conns n, true) := by
  have hi : Lib.index (conns (n + 1)) [10] = 7 := by
    rw [conns_succ, Lib.index_one]
    rfl
  unfold Lib.cut
  rw [hi, if_pos (by decide), conns_succ]
  rfl
theorem cut_nil : Lib.cut [] [10] = ([], [], false) := rfl
theorem conns_count : ∀ n, (conns n).count 10 = n
  | 0 => rfl
  | n + 1 => by
    rw [conns_succ, List.count_append, List.count_cons, conns_count n]
    simp [connectB]
theorem conns_suffix (n : Nat) : Lib.hasSuffix (conns (n + 1)) [10] = true := by
  rw [← conns_snoc]
  unfold Lib.hasSuffix
  rw [List.isSuffixOf_iff_suffix]
  exact ⟨conns n ++ connectB, by rw [List.append_assoc]; rfl⟩
theorem conns_text (n : Nat) (h : n ≤ 65536) : textR (List.replicate n connE) = (conns n, (n : Int), 0) := by
  unfold textR
  have hl := conns_len n
  unfold conns at hl ⊢
  rw [if_neg (by omega), List.length_replicate]
/-- An event that sends n bytes 0. -/
def bigE (n : Nat) : Ev := ⟨2, 0, List.replicate n 0, [], []⟩
theorem big_nums (n : Nat) : (bigE n).nums := ⟨(⟨by decide, by decide⟩ : i64 0), by simp [bigE], by simp [bigE]⟩
theorem big_may (n : Nat) : may31 (bigE n) = decide (n ≤ 1048576) := by
  unfold may31 bigE
  simp
theorem hex_zeros : ∀ n, (List.replicate n (0 : UInt8)).flatMap hexPair = List.replicate (2 * n) 48
  | 0 => rfl
  | n + 1 => by
    rw [List.replicate_succ, List.flatMap_cons, hex_zeros n, show 2 * (n + 1) = 2 * n + 1 + 1 from by omega, List.replicate_succ, List.replicate_succ]
    rfl
theorem itoa_nat0 : Lib.itoa 0 = [48] := by
  have h := itoa_nat 0
  rw [show ((0 : Nat) : Int) = 0 from rfl] at h
  rw [h, Lib.decDigits]
  rfl
theorem big_line (n : Nat) (h : 0 < n) : line31 (bigE n) = sendB ++ restOf [[48], List.replicate (2 * n) 48] := by
  unfold line31 bigE
  dsimp only
  rw [if_neg (by decide), if_pos rfl]
  unfold hex31
  rw [if_neg (by simp; omega), hex_zeros, itoa_nat0]
  unfold restOf
  simp
theorem big_len (n : Nat) (h : 0 < n) : (line31 (bigE n)).length = 2 * n + 7 := by
  rw [big_line n h]
  unfold restOf
  simp [sendB]
theorem big_read (n : Nat) (h : n ≤ 1048576) : read31 (line31 (bigE n)) = some (bigE n) := by
  rw [← sread_read]
  exact sread_line (by rw [big_may]; exact decide_eq_true h) (big_nums n)
theorem zeros_plain (n : Nat) : Plain (List.replicate n (48 : UInt8)) := fun h => by
  have := List.eq_of_mem_replicate h
  cases this
theorem big_words (n : Nat) (h : 0 < n) : words31 (line31 (bigE n)) = [sendB, [48], List.replicate (2 * n) 48] := by
  rw [big_line n h]
  refine words_join _ _ (by unfold Plain; decide) ?_
  intro x hx
  rcases List.mem_cons.1 hx with rfl | hx
  · unfold Plain; decide
  · rcases List.mem_cons.1 hx with rfl | hx
    · exact zeros_plain _
    · cases hx
theorem lines_big (k : Nat) : (lines31 (List.replicate k (bigE 1048576))).length = 2097160 * k := by
  induction k with
  | zero => rfl
  | succ k ih =>
    unfold lines31 at ih ⊢
    rw [List.replicate_succ, List.flatMap_cons, List.length_append, ih, List.length_append, big_len _ (by decide)]
    simp only [List.length_cons, List.length_nil]
    omega
theorem many_text : textR (List.replicate 8 (bigE 1048576)) = ([], 0, 3) := by
  unfold textR
  rw [if_pos (by rw [lines_big]; decide)]
end Go.Proofs.YtimglodailhkaaaGreat
