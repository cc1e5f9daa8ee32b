/-
  The lexer's small functions walked: what class a byte has; where a word ends; where a comment ends.
-/
import Derived.Test.YtbdheihjnkfpiaaGreatDoorShelf
import Derived.Test.YtbdheihjnkfpiaaGreatDoorKit
import Derived.Test.YtbdheihjnkfpiaaGreatDoorSpec
import Derived.Lib.Bytealg
import Derived.Lib.Walk
import Derived.Deep.QuietTactic
import Derived.BigQuiet
import Derived.StillTailTactics
namespace Go.Proofs.YtbdheihjnkfpiaaGreatDoor
open Go Go.RowKit

theorem ret_i {k : IntKind} {a b : Int} (h : a = b) : Ending.returned (.int k a) = .returned (.int k b) := by rw [h]
theorem ret_b {a b : Bool} (h : a = b) : Ending.returned (.bool a) = .returned (.bool b) := by rw [h]

theorem indexByte_mem : ∀ (l : List UInt8) (c : UInt8), (0 ≤ Lib.indexByte l c) ↔ c ∈ l
  | [], c => by simp [Lib.indexByte]
  | b :: l, c => by
    have ih := indexByte_mem l c
    have hge := Lib.indexByte_ge l c
    unfold Lib.indexByte
    by_cases h : b = c
    · subst h; simp
    · have h' : (b == c) = false := by simpa using h
      rw [h']
      have hne : c ≠ b := fun e => h e.symm
      simp only [Bool.false_eq_true, if_false, List.mem_cons, hne, false_or, ← ih]
      split <;> rename_i h2
      · have := eq_of_beq h2; omega
      · have h3 : Lib.indexByte l c ≠ -1 := by simpa using h2
        omega

def signsB : List UInt8 := [59, 123, 125, 91, 93, 60, 62, 40, 41, 61, 44, 46, 45]
theorem toU8 {c : Int} (h0 : 0 ≤ c) (h1 : c < 256) : (c.toNat.toUInt8.toNat : Int) = c := by
  have : c.toNat % 256 = c.toNat := Nat.mod_eq_of_lt (by omega)
  simp [Nat.toUInt8]; omega
theorem sign_mem {c : Int} (h0 : 0 ≤ c) (h1 : c < 256) : c.toNat.toUInt8 ∈ signsB ↔ (c = 59 ∨ c = 123 ∨ c = 125 ∨ c = 91 ∨ c = 93 ∨ c = 60 ∨ c = 62 ∨ c = 40 ∨ c = 41 ∨ c = 61 ∨ c = 44 ∨ c = 46 ∨ c = 45) := by
  have h := toU8 h0 h1
  generalize c.toNat.toUInt8 = x at h ⊢
  subst h
  simp [signsB, ← UInt8.toNat_inj]
  omega

set_option maxHeartbeats 1000000 in
theorem classOf_any (c : Int) (w : World) (h0 : 0 ≤ c) (h1 : c < 256) :
    Calls Tryz.prog 52 #[.int .u8 c] w fun e w' => e = .returned (.int .i64 (classN c)) ∧ w = w' := by
  obtain ⟨k, hk⟩ : ∃ k : Int, k = Lib.indexByte signsB c.toNat.toUInt8 := ⟨_, rfl⟩
  have hm : 0 ≤ k ↔ (c = 59 ∨ c = 123 ∨ c = 125 ∨ c = 91 ∨ c = 93 ∨ c = 60 ∨ c = 62 ∨ c = 40 ∨ c = 41 ∨ c = 61 ∨ c = 44 ∨ c = 46 ∨ c = 45) := by
    rw [hk, indexByte_mem, sign_mem h0 h1]
  have H1 : ∀ w, Calls Tryz.prog 39 #[.string { data := #[59, 123, 125, 91, 93, 60, 62, 40, 41, 61, 44, 46, 45] }, .int .u8 c] w fun e w' => e = .returned (.int .i64 k) ∧ w = w' := fun w =>
    (Tryz.strings_IndexByte _ c w).mono fun _ _ ⟨he, hw⟩ => ⟨by rw [he, hk]; rfl, hw.symm⟩
  have HI := Lib.hid H1
  have HM := Lib.hid hm
  clear H1 hm hk
  go_enter Tryz.func52, Tryz.ntmps52
  go_wp2_with (go_at_call 39; refine (HI.out _).mono ?_; rintro e w' ⟨rfl, rfl⟩)
  all_goals (go_ret; refine ⟨?_, rfl⟩; have hm := HM.out; exact ret_i (by unfold classN; (repeat' split) <;> simp at * <;> omega))
end Go.Proofs.YtbdheihjnkfpiaaGreatDoor
