/-
  The document's answer walked: the line of a place.
-/
import Derived.Test.YtinodapgldbljaaGreatDoorKit
import Derived.Test.YtinodapgldbljaaGreatDoorPs
import Derived.Test.YtinodapgldbljaaGreatDoorProg
import Derived.Deep.LoopGhost
import Derived.Deep.DeepCutAuto
import Derived.Deep.DeepMust
namespace Go.Proofs.YtinodapgldbljaaGreatDoor
open Go Go.RowKit
theorem ne_byte' {c d : UInt8} (h : c ≠ d) : ((c.toNat : Int) == (d.toNat : Int)) = false := beq_eq_false_iff_ne.2 fun e => h (UInt8.toNat_inj.1 (by omega))
set_option maxRecDepth 100000 in
set_option maxHeartbeats 4000000 in
theorem rline_any (s : ByteArray) (p : Int) (w : World) (hs : s.size ≤ 1000000000) :
    Calls Tryz.prog 20 #[.string s, .int .i64 p] w fun e w' => e = .returned (.int .i64 (line14 s.data.toList p : Nat)) ∧ w = w' := by
  obtain ⟨L, hL⟩ : ∃ L, line14 s.data.toList p = L := ⟨_, rfl⟩
  rw [hL]
  have HL := Lib.hid hL
  clear hL
  go_enter Tryz.func20, Tryz.ntmps20
  go_wp2_with fail
  go_loopg [5, 6] s.size (fun g vn vi wr => ∃ k n : Nat, vn = .int .i64 n ∧ vi = .int .i64 k ∧ k ≤ s.size ∧ Hid (k ≤ p.toNat) ∧ n ≤ k + 1 ∧ Hid (n = 1 + (s.data.toList.take k).count 10) ∧ w = wr ∧ g + k = s.size)
  case atStart => exact ⟨0, 1, rfl, rfl, by omega, Lib.hid (by omega), by omega, Lib.hid (by simp), rfl, by omega⟩
  case round =>
    obtain ⟨k, n, rfl, rfl, hk, hkp, hn, HA, rfl, hg⟩ := hrel
    by_cases hlt : k < s.size
    · have hlt2 : (k : Int) < (s.size : Int) := by omega
      by_cases hp : (k : Int) < p
      · obtain ⟨c, hc⟩ : ∃ c, s[k] = c := ⟨_, rfl⟩
        have hst : (s.data.toList.take (k + 1)).count 10 = (s.data.toList.take k).count 10 + (if c = 10 then 1 else 0) := by
          have hk' : k < s.data.toList.length := by simpa using hlt
          rw [List.take_succ_eq_append_getElem hk', List.count_append]
          have e : s.data.toList[k] = c := by rw [← hc]; rfl
          rw [e, List.count_singleton]
          simp
        have HST := Lib.hid hst
        clear hst
        by_cases h1 : c = 10
        · have h1b : ((c.toNat : Int) == 10) = true := by rw [h1]; rfl
          have HQ : Hid (n + 1 = 1 + (s.data.toList.take (k + 1)).count 10) := Lib.hid (by rw [HST.out, if_pos h1, HA.out]; omega)
          clear h1
          go_wp2_with fail
          go_roundg (gk - 1)
          case measure => omega
          case rel => exact ⟨k + 1, n + 1, by go_num, by go_num, by omega, Lib.hid (by omega), by omega, HQ, rfl, by omega⟩
        · have h1b : ((c.toNat : Int) == 10) = false := ne_byte' (d := 10) h1
          have HQ : Hid (n = 1 + (s.data.toList.take (k + 1)).count 10) := Lib.hid (by rw [HST.out, if_neg h1, HA.out]; omega)
          clear h1
          go_wp2_with fail
          go_roundg (gk - 1)
          case measure => omega
          case rel => exact ⟨k + 1, n, rfl, by go_num, by omega, Lib.hid (by omega), by omega, HQ, rfl, by omega⟩
      · have HE := Lib.hid (show n = L by
          have e : p.toNat = k := by have := hkp.out; omega
          rw [HA.out, ← HL.out]; unfold line14; rw [e])
        go_wp2_with fail
        go_ret
        exact ⟨by rw [← HE.out]; rfl, rfl⟩
    · have hlt2 : ¬ (k : Int) < (s.size : Int) := by omega
      have HE := Lib.hid (show n = L by
          have e : k = s.data.toList.length := by simp; have : s.data.size = s.size := rfl; omega
          rw [HA.out, ← HL.out]; unfold line14; rw [e, List.take_of_length_le (Nat.le_refl _), List.take_of_length_le (by rw [← e]; exact hkp.out)])
      go_wp2_with fail
      go_ret
      exact ⟨by rw [← HE.out]; rfl, rfl⟩
end Go.Proofs.YtinodapgldbljaaGreatDoor
