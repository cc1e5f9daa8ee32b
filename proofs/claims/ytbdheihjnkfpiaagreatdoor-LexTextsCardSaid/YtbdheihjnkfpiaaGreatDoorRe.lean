import Derived.Test.YtbdheihjnkfpiaaGreatDoorRd
namespace Go.Proofs.YtbdheihjnkfpiaaGreatDoor
open Go Go.RowKit
theorem rrun_ten (s : ByteArray) (k : Nat) (w : World) (hs : s.size ≤ 2147483640) (hk : k ≤ s.size) :
    Calls Tryz.prog 45 #[.string s, .int .i64 k, .string ⟨#[48, 49, 50, 51, 52, 53, 54, 55, 56, 57]⟩] w fun e w' => e = .returned (.int .i64 ((k + ((s.data.toList.drop k).takeWhile isTen).length : Nat))) ∧ w = w' := by
  have h := rrun_any s k ⟨#[48, 49, 50, 51, 52, 53, 54, 55, 56, 57]⟩ w hs hk (by decide)
  rw [← tens_fun]; exact h
theorem rrun_eight (s : ByteArray) (k : Nat) (w : World) (hs : s.size ≤ 2147483640) (hk : k ≤ s.size) :
    Calls Tryz.prog 45 #[.string s, .int .i64 k, .string ⟨#[48, 49, 50, 51, 52, 53, 54, 55]⟩] w fun e w' => e = .returned (.int .i64 ((k + ((s.data.toList.drop k).takeWhile isEight).length : Nat))) ∧ w = w' := by
  have h := rrun_any s k ⟨#[48, 49, 50, 51, 52, 53, 54, 55]⟩ w hs hk (by decide)
  rw [← eights_fun]; exact h
theorem rrun_hex (s : ByteArray) (k : Nat) (w : World) (hs : s.size ≤ 2147483640) (hk : k ≤ s.size) :
    Calls Tryz.prog 45 #[.string s, .int .i64 k, .string ⟨#[48, 49, 50, 51, 52, 53, 54, 55, 56, 57, 97, 98, 99, 100, 101, 102, 65, 66, 67, 68, 69, 70]⟩] w fun e w' => e = .returned (.int .i64 ((k + ((s.data.toList.drop k).takeWhile isHex).length : Nat))) ∧ w = w' := by
  have h := rrun_any s k ⟨#[48, 49, 50, 51, 52, 53, 54, 55, 56, 57, 97, 98, 99, 100, 101, 102, 65, 66, 67, 68, 69, 70]⟩ w hs hk (by decide)
  rw [← hexs_fun]; exact h
theorem rin_word (c : UInt8) (w : World) :
    Calls Tryz.prog 44 #[.int .u8 c.toNat, .string ⟨#[97, 98, 99, 100, 101, 102, 103, 104, 105, 106, 107, 108, 109, 110, 111, 112, 113, 114, 115, 116, 117, 118, 119, 120, 121, 122, 65, 66, 67, 68, 69, 70, 71, 72, 73, 74, 75, 76, 77, 78, 79, 80, 81, 82, 83, 84, 85, 86, 87, 88, 89, 90, 95, 48, 49, 50, 51, 52, 53, 54, 55, 56, 57]⟩] w fun e w' => e = .returned (.bool (isWord c)) ∧ w = w' := by
  have h := rin_any c ⟨#[97, 98, 99, 100, 101, 102, 103, 104, 105, 106, 107, 108, 109, 110, 111, 112, 113, 114, 115, 116, 117, 118, 119, 120, 121, 122, 65, 66, 67, 68, 69, 70, 71, 72, 73, 74, 75, 76, 77, 78, 79, 80, 81, 82, 83, 84, 85, 86, 87, 88, 89, 90, 95, 48, 49, 50, 51, 52, 53, 54, 55, 56, 57]⟩ w (by decide)
  rw [← word_mem]; exact h
/-- number: the value and where it ends, or the place and what is wrong. -/
def RNumPost (k n : Nat) (r : Except Nat Nat) (w : World) (e : Ending) (w' : World) : Prop :=
  w = w' ∧ match r with
  | .ok x => e = .returned (.tuple #[.int .u64 x, .int .i64 ((k + n : Nat)), .int .i64 0])
  | .error c => e = .returned (.tuple #[.int .u64 0, .int .i64 k, .int .i64 c])

set_option maxRecDepth 100000 in
set_option maxHeartbeats 4000000 in
theorem rnum_hex_none (s : ByteArray) (k : Nat) (w : World) (hs : s.size ≤ 2147483000) (hk : k < s.size) (hk1 : k + 1 < s.size)
    (g0 : (((s[k]'hk).toNat : Int) == 48) = true)
    (g1 : ((((s[k + 1]'hk1).toNat : Int) == 120) = true ∧ True) ∨ ((((s[k + 1]'hk1).toNat : Int) == 120) = false ∧ (((s[k + 1]'hk1).toNat : Int) == 88) = true))
    (H1 : Hid (k + ((s.data.toList.drop k).takeWhile isTen).length = k + 1)) (HH : Hid (k + 2 + ((s.data.toList.drop (k + 2)).takeWhile isHex).length = k + 2)) :
    Calls Tryz.prog 46 #[.string s, .int .i64 k] w (RNumPost k 0 (.error 240) w) := by
  rcases g1 with ⟨g1, g2⟩ | ⟨g1, g2⟩
  all_goals
    go_enter Tryz.func46, Tryz.ntmps46
    go_wp2_with fail
    refine (rrun_ten s k _ (by omega) (by omega)).mono ?_
    rintro e w' ⟨rfl, rfl⟩
    rw [H1.out]
    go_wp2_with fail
    refine (rrun_hex s (k + 2) _ (by omega) (by omega)).mono ?_
    rintro e w' ⟨rfl, rfl⟩
    rw [HH.out]
    go_wp2_with fail
    go_ret3
    exact ⟨rfl, rfl⟩
set_option maxRecDepth 100000 in
set_option maxHeartbeats 4000000 in
theorem rnum_hex_next (s : ByteArray) (k E : Nat) (w : World) (hs : s.size ≤ 2147483000) (hk : k < s.size) (hk1 : k + 1 < s.size)
    (g0 : (((s[k]'hk).toNat : Int) == 48) = true)
    (g1 : ((((s[k + 1]'hk1).toNat : Int) == 120) = true ∧ True) ∨ ((((s[k + 1]'hk1).toNat : Int) == 120) = false ∧ (((s[k + 1]'hk1).toNat : Int) == 88) = true))
    (H1 : Hid (k + ((s.data.toList.drop k).takeWhile isTen).length = k + 1)) (HH : Hid (k + 2 + ((s.data.toList.drop (k + 2)).takeWhile isHex).length = E))
    (hkE : k + 2 < E) (hE : E < s.size) (HW : Hid (isWord (s[E]'hE) = true)) :
    Calls Tryz.prog 46 #[.string s, .int .i64 k] w (RNumPost k 0 (.error 240) w) := by
  rcases g1 with ⟨g1, g2⟩ | ⟨g1, g2⟩
  all_goals
    go_enter Tryz.func46, Tryz.ntmps46
    go_wp2_with fail
    refine (rrun_ten s k _ (by omega) (by omega)).mono ?_
    rintro e w' ⟨rfl, rfl⟩
    rw [H1.out]
    go_wp2_with fail
    refine (rrun_hex s (k + 2) _ (by omega) (by omega)).mono ?_
    rintro e w' ⟨rfl, rfl⟩
    rw [HH.out]
    go_wp2_with fail
    refine (rin_word (s[E]'hE) _).mono ?_
    rintro e w' ⟨rfl, rfl⟩
    rw [HW.out]
    go_wp2_with fail
    go_ret3
    exact ⟨rfl, rfl⟩
end Go.Proofs.YtbdheihjnkfpiaaGreatDoor
