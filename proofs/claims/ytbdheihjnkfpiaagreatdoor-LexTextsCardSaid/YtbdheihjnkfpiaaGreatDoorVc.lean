/-
  strings.ContainsFunc over a word's bytes walked.
-/
import Derived.Test.YtbdheihjnkfpiaaGreatDoorShelf
import Derived.Test.YtbdheihjnkfpiaaGreatDoorWb
import Derived.Test.YtbdheihjnkfpiaaGreatDoorPs
import Derived.Test.YtbdheihjnkfpiaaGreatDoorVi
namespace Go.Proofs.YtbdheihjnkfpiaaGreatDoor
open Go Go.RowKit
/-- The rune is none of a word. -/
def badRune (x : Nat) : Bool := decide (126 < x) || !(classN (x : Int) == 1 || classN (x : Int) == 2)
theorem decode_small (s : ByteArray) (k : Nat) (hk : k < s.size) (h : s[k].toNat < 128) : Utf8.decode s k = (s[k].toNat, 1) := by
  unfold Utf8.decode
  have e : s.get! (k + 0) = s[k] := by
    rw [Nat.add_zero]
    show s.data[k]! = s.data[k]
    exact getElem!_pos s.data k hk
  dsimp only
  rw [if_pos (show (s.get! (k + 0)).toNat < 128 by rw [e]; exact h), e]
theorem decode_big (s : ByteArray) (k : Nat) (hk : k < s.size) (h : ¬ s[k].toNat < 128) : 126 < (Utf8.decode s k).1 := by
  unfold Utf8.decode
  have e : s.get! (k + 0) = s[k] := by
    rw [Nat.add_zero]
    show s.data[k]! = s.data[k]
    exact getElem!_pos s.data k hk
  dsimp only
  rw [if_neg (show ¬ (s.get! (k + 0)).toNat < 128 by rw [e]; exact h)]
  have hr : 126 < Utf8.runeError := by decide
  repeat' split
  all_goals first | exact hr | (simp_all; omega)
theorem word_small {c : UInt8} (h : isWord c = true) : c.toNat < 127 := by
  rcases Nat.lt_or_ge c.toNat 127 with h1 | h1
  · exact h1
  · exfalso
    have : isWord c = false := by
      unfold isWord cls classN
      repeat' split
      all_goals first | rfl | omega
    rw [this] at h; cases h
theorem badRune_byte (c : UInt8) : badRune c.toNat = !isWord c := by
  unfold badRune
  by_cases h : 126 < c.toNat
  · have : isWord c = false := by
      cases hw : isWord c with
      | false => rfl
      | true => have := word_small hw; omega
    rw [this]; simp [h]
  · rw [show decide (126 < c.toNat) = false from decide_eq_false h, Bool.false_or]; rfl
theorem idx_word (s : ByteArray) : ∀ (f pos : Nat), s.size ≤ pos + f → decide (0 ≤ Lib.idxFuncFrom badRune true s f pos) = !((s.data.toList.drop pos).all isWord) := by
  intro f
  induction f with
  | zero =>
    intro pos h
    rw [Lib.idxFuncFrom_end _ _ _ _ _ (by omega), List.drop_eq_nil_of_le (by simp; have : s.data.size = s.size := rfl; omega)]
    rfl
  | succ f ih =>
    intro pos h
    by_cases hp : pos < s.size
    · have hd := drop_byte s pos hp
      rw [hd, List.all_cons]
      by_cases hs : s[pos].toNat < 128
      · have hde := decode_small s pos hp hs
        simp only [Lib.idxFuncFrom, hp, if_true, hde, badRune_byte]
        cases hw : isWord s[pos] with
        | true =>
          have := ih (pos + 1) (by omega)
          simpa using this
        | false => simp
      · have hde := decode_big s pos hp hs
        have hb : badRune (Utf8.decode s pos).1 = true := by unfold badRune; simp [hde]
        have hw : isWord s[pos] = false := by
          cases hw : isWord s[pos] with
          | false => rfl
          | true => have := word_small hw; omega
        simp only [Lib.idxFuncFrom, hp, if_true, hb, hw]
        simp
    · rw [Lib.idxFuncFrom_end _ _ _ _ _ hp, List.drop_eq_nil_of_le (by simp; have : s.data.size = s.size := rfl; omega)]
      rfl
set_option maxHeartbeats 1000000 in
theorem may1_any (x : Nat) (hx : x ≤ 1114111) (w : World) :
    Calls Tryz.prog 50 #[.int .i32 x] w fun e w' => e = .returned (.bool (badRune x)) ∧ w = w' := by
  by_cases h : 126 < x
  · have hb : badRune x = true := by unfold badRune; simp [h]
    rw [hb]
    have h2 : (126 : Int) < (x : Int) := by omega
    go_enter Tryz.func50, Tryz.ntmps50
    go_wp2_with fail
    go_ret
    exact ⟨rfl, rfl⟩
  · have h2 : ¬ (126 : Int) < (x : Int) := by omega
    obtain ⟨R, hR⟩ : ∃ R, (classN (x : Int) == 1 || classN (x : Int) == 2) = R := ⟨_, rfl⟩
    have hb : badRune x = !R := by unfold badRune; rw [hR]; simp [h]
    rw [hb]
    have hc := wordly_any (x : Int) w (by omega) (by omega)
    rw [hR] at hc
    clear hb hR h
    have h3 : (x : Int) < 256 := by omega
    go_enter Tryz.func50, Tryz.ntmps50
    go_wp2_with (go_at_call 51; refine hc.mono ?_; rintro e w' ⟨rfl, rfl⟩)
    go_ret
    exact ⟨rfl, rfl⟩
theorem may_contains (s : ByteArray) (w : World) :
    Calls Tryz.prog 49 #[.string s, .func (.func 50) #[] #[]] w fun e w' => e = .returned (.bool (!(s.data.toList.all isWord))) ∧ Fr No w w' := by
  refine (Tryz.strings_ContainsFunc_runes 50 #[] (enters_of Tryz.func50 (by kernel_rfl) rfl) badRune s w ?_).mono ?_
  · intro W x hx _
    refine (may1_any x hx W).mono ?_
    rintro e w' ⟨rfl, rfl⟩
    exact ⟨rfl, 0, by simp [World.drewN_zero]⟩
  · rintro e w' ⟨rfl, hb⟩
    refine ⟨?_, Fr.ofBelow hb⟩
    rw [show decide (0 ≤ Lib.idxFunc badRune true s) = _ from idx_word s s.size 0 (by omega)]
    rfl
end Go.Proofs.YtbdheihjnkfpiaaGreatDoor
