/-
  protolex.Line walked.
-/
import Derived.Test.YtinodapgldbljaaGreatDoorShelf
import Derived.Test.YtinodapgldbljaaGreatDoorKit
import Derived.Test.YtinodapgldbljaaGreatDoorPs
import Derived.Lib.Hide
namespace Go.Proofs.YtinodapgldbljaaGreatDoor
open Go Go.RowKit
theorem ret_i' {k : IntKind} {a b : Int} (h : a = b) : Ending.returned (.int k a) = .returned (.int k b) := by rw [h]
set_option maxRecDepth 100000 in
set_option maxHeartbeats 1000000 in
theorem line_any (s : ByteArray) (p : Int) (w : World) (hs : s.size ≤ 1000000000) :
    Calls Tryz.prog 19 #[.string s, .int .i64 p] w fun e w' => e = .returned (.int .i64 (line14 s.data.toList p : Nat)) ∧ w = w' := by
  obtain ⟨r, hr⟩ : ∃ r, s.extract 0 (max 0 (min p (s.size : Int))).toNat = r := ⟨_, rfl⟩
  obtain ⟨n, hn⟩ : ∃ n, n = Lib.countByte r.data.toList 10 := ⟨_, rfl⟩
  have hd : r.data.toList = s.data.toList.take p.toNat := by
    rw [← hr, ByteArray.data_extract, Array.toList_extract, List.extract_eq_take_drop, List.drop_zero, Nat.sub_zero]
    have : s.data.toList.length = s.size := by simp
    rw [← this, List.take_eq_take_iff]; omega
  have hr2 : n ≤ s.size := by
    rw [hn, hd]
    unfold Lib.countByte
    refine Nat.le_trans List.count_le_length ?_
    rw [List.length_take]
    have : s.data.toList.length = s.size := by simp
    omega
  have HC := fun wx => Tryz.strings_Count_one r 10 wx
  rw [← hn] at HC
  have HC := Lib.hid HC
  have HL : Hid (line14 s.data.toList p = 1 + n) := Lib.hid (by unfold line14; rw [hn, hd]; rfl)
  clear hd hn
  go_enter Tryz.func19, Tryz.ntmps19
  go_wp2_with fail
  refine (HC.out _).mono ?_
  rintro e w' ⟨rfl, rfl⟩
  go_wp2_with fail
  go_ret
  exact ⟨ret_i' (by rw [HL.out]; omega), rfl⟩
end Go.Proofs.YtinodapgldbljaaGreatDoor
