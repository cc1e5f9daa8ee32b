/-
  The lexer's small functions walked: which byte belongs to a word; where a word ends.
-/
import Derived.Test.YtbdheihjnkfpiaaGreatDoorWa
import Derived.Deep.LoopGhost
import Derived.Deep.DeepMust
namespace Go.Proofs.YtbdheihjnkfpiaaGreatDoor
open Go Go.RowKit
theorem cls_byte (c : UInt8) : (0:Int) ≤ (c.toNat : Int) ∧ (c.toNat : Int) < 256 := by have := c.toNat_lt; omega

set_option maxHeartbeats 1000000 in
theorem wordly_any (c : Int) (w : World) (h0 : 0 ≤ c) (h1 : c < 256) :
    Calls Tryz.prog 51 #[.int .u8 c] w fun e w' => e = .returned (.bool (classN c == 1 || classN c == 2)) ∧ w = w' := by
  cases hA : classN c == 1
  · go_enter Tryz.func51, Tryz.ntmps51
    go_wp2_with (go_at_call 52; refine (classOf_any _ _ h0 h1).mono ?_; rintro e w' ⟨rfl, rfl⟩)
    go_ret
    exact ⟨by simp, rfl⟩
  · go_enter Tryz.func51, Tryz.ntmps51
    go_wp2_with (go_at_call 52; refine (classOf_any _ _ h0 h1).mono ?_; rintro e w' ⟨rfl, rfl⟩)
    go_ret
    exact ⟨by simp, rfl⟩
theorem wordly_byte (c : UInt8) (w : World) : Calls Tryz.prog 51 #[.int .u8 c.toNat] w fun e w' => e = .returned (.bool (isWord c)) ∧ w = w' :=
  wordly_any _ w (cls_byte c).1 (cls_byte c).2

/-- A byte of a text: the list's head there. -/
theorem drop_byte (s : ByteArray) (k : Nat) (h : k < s.size) : s.data.toList.drop k = s[k] :: s.data.toList.drop (k + 1) := by
  rw [List.drop_eq_getElem_cons (by simpa using h)]; rfl
theorem wordLen_cons (c : UInt8) (l : Bytes) : wordLen (c :: l) = if isWord c then wordLen l + 1 else 0 := by
  unfold wordLen; rw [List.takeWhile_cons]; split <;> simp

set_option maxHeartbeats 1000000 in
theorem run_any (b : Nat) (s : ByteArray) (at_ : Int) (frm : Nat) (w : World) (hb : w.heap[b]? = some (.cells #[.string s, .int .i64 at_] 78 (0, 0))) (hs : s.size ≤ maxLen) (hf : frm ≤ s.size) :
    Calls Tryz.prog 73 #[.pointer (some ⟨b, 0, none⟩), .int .i64 frm, .func (.func 51) #[] #[]] w
      fun e w' => e = .returned (.int .i64 ((frm + wordLen (s.data.toList.drop frm) : Nat))) ∧ ∃ n, w.drewN n = w' := by
  unfold maxLen at hs
  obtain ⟨T, hT⟩ : ∃ T, T = frm + wordLen (s.data.toList.drop frm) := ⟨_, rfl⟩
  rw [← hT]
  have hc0 : w.cell? ⟨b, 0, none⟩ = some (.string s) := (two_cells hb).1
  have HT := Lib.hid hT
  clear hb hT
  go_enter Tryz.func73, Tryz.ntmps73
  go_wp2_with fail
  go_loopg [1] (s.size - frm) (fun g v wr => ∃ k n : Nat, w.drewN n = wr ∧ v = .int .i64 k ∧ k ≤ s.size ∧ T = k + wordLen (s.data.toList.drop k) ∧ g = s.size - k)
  case atStart => exact ⟨frm, 0, rfl, rfl, hf, HT.out, rfl⟩
  case round =>
    obtain ⟨k, n, rfl, rfl, hk, hTk, hg⟩ := hrel
    have HTk := Lib.hid hTk
    have Hg := Lib.hid hg
    clear hTk hg
    by_cases hlt : k < s.size
    · have hd := Lib.hid (drop_byte s k hlt)
      cases hw : isWord s[k]
      · have Hw := Lib.hid hw
        clear hw
        go_wp2_with (go_at_call 51; refine (wordly_byte _ _).mono ?_; rintro e w' ⟨rfl, rfl⟩; rw [Hw.out])
        go_ret
        have e : T = k := by rw [HTk.out, hd.out, wordLen_cons, Hw.out]; rfl
        exact ⟨ret_i (by rw [e]), _, rfl⟩
      · have Hw := Lib.hid hw
        clear hw
        go_wp2_with (go_at_call 51; refine (wordly_byte _ _).mono ?_; rintro e w' ⟨rfl, rfl⟩; rw [Hw.out])
        go_roundg (s.size - (k + 1))
        case measure => rw [Hg.out]; omega
        case rel =>
          refine ⟨k + 1, _, rfl, by go_num, by omega, ?_, rfl⟩
          rw [HTk.out, hd.out, wordLen_cons, Hw.out]; simp; omega
    · go_wp2_with fail
      go_ret
      have e : T = k := by rw [HTk.out, List.drop_eq_nil_of_le (by simp; omega)]; rfl
      exact ⟨ret_i (by rw [e]), _, rfl⟩
end Go.Proofs.YtbdheihjnkfpiaaGreatDoor
