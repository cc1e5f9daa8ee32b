/-
  What 'works' reads and tells, reckoned.
-/
import Derived.Test.YtbdheihjnkfpiaaGreatDoorBb
namespace Go.Proofs.YtbdheihjnkfpiaaGreatDoor
theorem lexAt_end (p : Nat) : lexAt p [] = ([], none) := by unfold lexAt; rw [if_pos rfl]
theorem lexAt_tok {p k x n : Nat} {l t : Bytes} (h : tokAt l = .ok (k, t, x, n)) : lexAt p l = (⟨k, p, t, x⟩ :: (lexFrom (p + n) (l.drop n)).1, (lexFrom (p + n) (l.drop n)).2) := by
  unfold lexAt; rw [if_neg (tokAt_pos h).2, h]
theorem lexAt_err {p e : Nat} {l : Bytes} (hl : l ≠ []) (h : tokAt l = .error e) : lexAt p l = ([], some (p, e)) := by
  unfold lexAt; rw [if_neg hl, h]
theorem lexFrom_zero {p : Nat} {l : Bytes} (h : gapLen l = (0, true)) : lexFrom p l = lexAt p l := by
  rw [lexFrom_ok (by rw [h]), h]; rfl
def wText : Bytes := [97, 49, 61, 48, 120, 49, 70, 59, 47, 47, 120]
def wToks : List Tok := [⟨1, 0, [97, 49], 0⟩, ⟨4, 2, [61], 0⟩, ⟨2, 3, [], 31⟩, ⟨4, 7, [59], 0⟩]
theorem gap_comment : gapLen [47, 47, 120] = (3, true) := by
  rw [gapLen, if_neg (by decide), if_pos (by decide)]
  show ((gapLen ([47, 120].drop (lineLen [47, 120]))).1 + (lineLen [47, 120] + 1), _) = _
  rw [show lineLen [47, 120] = 2 from rfl, show ([47, 120] : Bytes).drop 2 = [] from rfl, gapLen]
theorem works_lex : lexFrom 0 wText = (wToks, none) := by
  unfold wText wToks
  rw [lexFrom_zero (gapLen_tok (by decide) (by decide)), lexAt_tok (show tokAt [97, 49, 61, 48, 120, 49, 70, 59, 47, 47, 120] = .ok (1, [97, 49], 0, 2) from by rfl)]
  rw [show ([97, 49, 61, 48, 120, 49, 70, 59, 47, 47, 120] : Bytes).drop 2 = [61, 48, 120, 49, 70, 59, 47, 47, 120] from rfl]
  rw [lexFrom_zero (gapLen_tok (by decide) (by decide)), lexAt_tok (show tokAt [61, 48, 120, 49, 70, 59, 47, 47, 120] = .ok (4, [61], 0, 1) from by rfl)]
  rw [show ([61, 48, 120, 49, 70, 59, 47, 47, 120] : Bytes).drop 1 = [48, 120, 49, 70, 59, 47, 47, 120] from rfl]
  rw [lexFrom_zero (gapLen_tok (by decide) (by decide)), lexAt_tok (show tokAt [48, 120, 49, 70, 59, 47, 47, 120] = .ok (2, [], 31, 4) from by rfl)]
  rw [show ([48, 120, 49, 70, 59, 47, 47, 120] : Bytes).drop 4 = [59, 47, 47, 120] from rfl]
  rw [lexFrom_zero (gapLen_tok (by decide) (by decide)), lexAt_tok (show tokAt [59, 47, 47, 120] = .ok (4, [59], 0, 1) from by rfl)]
  rw [show ([59, 47, 47, 120] : Bytes).drop 1 = [47, 47, 120] from rfl]
  rw [lexFrom_ok (by rw [gap_comment]), gap_comment]
  rw [show ([47, 47, 120] : Bytes).drop (3, true).1 = [] from rfl, lexAt_end]
theorem works_lex14 : lex14 wText = (wToks, 0, 0) := lex14_ok (by decide) works_lex
theorem textRun_open : textRun 34 [97] = none := by
  rw [textRun, if_neg (by decide), if_neg (by decide), if_neg (by decide), textRun]; rfl
theorem works_bad : lexFrom 0 [98, 32, 34, 97] = ([⟨1, 0, [98], 0⟩], some (2, 240)) := by
  rw [lexFrom_zero (gapLen_tok (by decide) (by decide)), lexAt_tok (show tokAt [98, 32, 34, 97] = .ok (1, [98], 0, 1) from by rfl)]
  rw [show ([98, 32, 34, 97] : Bytes).drop 1 = [32, 34, 97] from rfl]
  have hg : gapLen [32, 34, 97] = (1, true) := by rw [gapLen_blank (by decide), gapLen_tok (by decide) (by decide)]
  rw [lexFrom_ok (by rw [hg]), hg]
  have hb : tokAt [34, 97] = .error 240 := by rw [tokAt, if_neg (by decide), if_neg (by decide), if_pos (by decide), textRun_open]
  rw [show ([32, 34, 97] : Bytes).drop (1, true).1 = [34, 97] from rfl, lexAt_err (by simp) hb]
  rfl
theorem works_bad14 : lex14 [98, 32, 34, 97] = ([], 2, 240) := lex14_bad (by decide) works_bad
theorem works_print : print14 (wToks.map Tok.pt) = ([97, 49, 32, 61, 32, 51, 49, 32, 59], 0) := by
  have h31 : Lib.decDigits 31 = [51, 49] := by rw [Lib.decDigits_two (by decide) (by decide)]; rfl
  have ht : tellR true (wToks.map Tok.pt) = [97, 49, 32, 61, 32, 51, 49, 32, 59] := by
    simp [wToks, Tok.pt, tellR, told, h31]
  rw [print14_of (by decide +kernel) (by rw [ht]; decide), ht]
end Go.Proofs.YtbdheihjnkfpiaaGreatDoor
