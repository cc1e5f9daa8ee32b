/-
  The document's answer walked: what a digit counts; what digits count to the bases 8, 10, 16.
-/
import Derived.Test.YtbdheihjnkfpiaaGreatDoorRb
import Derived.Test.YtbdheihjnkfpiaaGreatDoorPu
namespace Go.Proofs.YtbdheihjnkfpiaaGreatDoor
open Go Go.RowKit
theorem hex_cases {c : UInt8} (h : isHex c = true) : (48 ≤ c.toNat ∧ c.toNat ≤ 57) ∨ (97 ≤ c.toNat ∧ c.toNat ≤ 102) ∨ (65 ≤ c.toNat ∧ c.toNat ≤ 70) := by
  unfold isHex at h
  simp only [Bool.or_eq_true, Bool.and_eq_true, decide_eq_true_eq, UInt8.le_iff_toNat_le] at h
  have e1 : (48 : UInt8).toNat = 48 := rfl
  have e2 : (57 : UInt8).toNat = 57 := rfl
  have e3 : (97 : UInt8).toNat = 97 := rfl
  have e4 : (102 : UInt8).toNat = 102 := rfl
  have e5 : (65 : UInt8).toNat = 65 := rfl
  have e6 : (70 : UInt8).toNat = 70 := rfl
  omega
set_option maxHeartbeats 2000000 in
theorem rdigit_any (c : UInt8) (w : World) (h : isHex c = true) : Calls Tryz.prog 76 #[.int .u8 c.toNat] w fun e w' => e = .returned (.int .u64 (digV c)) ∧ w = w' := by
  obtain ⟨D, hD⟩ : ∃ D, D = digV c := ⟨_, rfl⟩
  rw [← hD]
  rcases hex_cases h with ⟨h0, h1⟩ | ⟨h0, h1⟩ | ⟨h0, h1⟩
  · rw [digV_ten h0 h1] at hD
    have HD := Lib.hid hD
    clear hD h
    go_enter Tryz.func76, Tryz.ntmps76
    go_wp2_with fail
    go_ret
    exact ⟨ret_i (by have := HD.out; omega), rfl⟩
  · rw [digV_low h0] at hD
    have HD := Lib.hid hD
    clear hD h
    go_enter Tryz.func76, Tryz.ntmps76
    go_wp2_with fail
    go_ret
    exact ⟨ret_i (by have := HD.out; omega), rfl⟩
  · rw [digV_up h0 h1] at hD
    have HD := Lib.hid hD
    clear hD h
    go_enter Tryz.func76, Tryz.ntmps76
    go_wp2_with fail
    go_ret
    exact ⟨ret_i (by have := HD.out; omega), rfl⟩
/-- What value answers. -/
def rval (v : Nat) : Ending := if v < 18446744073709551616 then .returned (.tuple #[.int .u64 v, .bool true]) else .returned (.tuple #[.int .u64 0, .bool false])
theorem rval_ok {v : Nat} (h : v < 18446744073709551616) : Ending.returned (.tuple #[.int .u64 v, .bool true]) = rval v := by unfold rval; rw [if_pos h]
theorem rval_no {v : Nat} (h : 18446744073709551616 ≤ v) : Ending.returned (.tuple #[.int .u64 0, .bool false]) = rval v := by unfold rval; rw [if_neg (by omega)]

set_option maxRecDepth 100000 in
set_option maxHeartbeats 8000000 in
theorem rvalue_8 (s : ByteArray) (w : World) (hs : s.size ≤ 2147483640) (hall : ∀ c ∈ s.data.toList, isHex c = true) :
    Calls Tryz.prog 61 #[.string s, .int .u64 8] w fun e w' => e = rval (valOf 8 s.data.toList) ∧ w = w' := by
  obtain ⟨V, hV⟩ : ∃ V, V = valOf 8 s.data.toList := ⟨_, rfl⟩
  rw [← hV]
  have HV := Lib.hid hV
  have HALL := Lib.hid hall
  clear hV hall
  go_enter Tryz.func61, Tryz.ntmps61
  go_wp2_with fail
  go_loopg [6, 7] s.size (fun g vx vi wr => ∃ (i acc : Nat) (a : Int), w = wr ∧ vx = .int .u64 a ∧ vi = .int .i64 i ∧ i ≤ s.size ∧ 0 ≤ a ∧ a < 18446744073709551616 ∧ Hid (a = (acc : Int) ∧ V = valFrom 8 acc (s.data.toList.drop i)) ∧ g + i = s.size)
  case atStart => exact ⟨0, 0, 0, rfl, rfl, rfl, by omega, by omega, by omega, Lib.hid ⟨rfl, HV.out⟩, by omega⟩
  case round =>
    obtain ⟨i, acc, a, hwi, rfl, rfl, hi, a0, a1, hh, hg⟩ := hrel
    subst hwi
    have HG := Lib.hid hg
    clear hg HV
    by_cases hlt : i < s.size
    · have hd := drop_byte s i hlt
      have hok := HALL.out s[i] (List.mem_of_mem_drop (by rw [hd]; exact List.mem_cons_self))
      obtain ⟨c, hc⟩ : ∃ c, s[i] = c := ⟨_, rfl⟩
      rw [hc] at hd hok
      have hdv := digV_hex c hok
      obtain ⟨d, hdd⟩ : ∃ d : Int, d = (digV c : Int) := ⟨_, rfl⟩
      have d0 : 0 ≤ d := by omega
      have d1 : d ≤ 15 := by omega
      have HOK := Lib.hid hok
      have HD := Lib.hid hd
      have HDD := Lib.hid hdd
      clear hok hd hdv hdd
      by_cases hov : 18446744073709551615 < 8 * a + d
      · have HF := Lib.hid (show 18446744073709551616 ≤ V by
          have h1 := hh.out
          rw [HD.out, valFrom_cons] at h1
          have h2 := valFrom_ge 8 (by omega) (s.data.toList.drop (i + 1)) (8 * acc + digV c)
          have h3 := HDD.out
          omega)
        have icut : (18446744073709551615 - d) / 8 < a := by omega
        clear hov hh
        go_wp2_with (go_at_call 76; refine (rdigit_any c _ HOK.out).mono ?_; rintro e w' ⟨rfl, rfl⟩; rw [← HDD.out])
        go_ret2
        exact ⟨rval_no HF.out, rfl⟩
      · have HN := Lib.hid (show 8 * a + d = ((8 * acc + digV c : Nat) : Int) ∧ V = valFrom 8 (8 * acc + digV c) (s.data.toList.drop (i + 1)) by
          have h1 := hh.out
          rw [HD.out, valFrom_cons] at h1
          have h3 := HDD.out
          exact ⟨by omega, h1.2⟩)
        have icut : ¬ (18446744073709551615 - d) / 8 < a := by omega
        have iov : 8 * a + d < 18446744073709551616 := by omega
        clear hov hh
        go_wp2_with (go_at_call 76; refine (rdigit_any c _ HOK.out).mono ?_; rintro e w' ⟨rfl, rfl⟩; rw [← HDD.out])
        go_roundg (gk - 1)
        case measure => have := HG.out; omega
        case rel => exact ⟨i + 1, 8 * acc + digV c, 8 * a + d, rfl, rfl, by go_num, by omega, by omega, iov, HN, by have := HG.out; omega⟩
    · have HF := Lib.hid (show V = acc by rw [hh.out.2, List.drop_eq_nil_of_le (by simp; omega)]; rfl)
      have HA := Lib.hid hh.out.1
      have HE := Lib.hid (show Ending.returned (.tuple #[.int .u64 a, .bool true]) = rval V by rw [HA.out, HF.out]; exact rval_ok (by have := HA.out; omega))
      clear hh
      go_wp2_with fail
      go_ret2
      exact ⟨HE.out, rfl⟩

set_option maxRecDepth 100000 in
set_option maxHeartbeats 8000000 in
theorem rvalue_10 (s : ByteArray) (w : World) (hs : s.size ≤ 2147483640) (hall : ∀ c ∈ s.data.toList, isHex c = true) :
    Calls Tryz.prog 61 #[.string s, .int .u64 10] w fun e w' => e = rval (valOf 10 s.data.toList) ∧ w = w' := by
  obtain ⟨V, hV⟩ : ∃ V, V = valOf 10 s.data.toList := ⟨_, rfl⟩
  rw [← hV]
  have HV := Lib.hid hV
  have HALL := Lib.hid hall
  clear hV hall
  go_enter Tryz.func61, Tryz.ntmps61
  go_wp2_with fail
  go_loopg [6, 7] s.size (fun g vx vi wr => ∃ (i acc : Nat) (a : Int), w = wr ∧ vx = .int .u64 a ∧ vi = .int .i64 i ∧ i ≤ s.size ∧ 0 ≤ a ∧ a < 18446744073709551616 ∧ Hid (a = (acc : Int) ∧ V = valFrom 10 acc (s.data.toList.drop i)) ∧ g + i = s.size)
  case atStart => exact ⟨0, 0, 0, rfl, rfl, rfl, by omega, by omega, by omega, Lib.hid ⟨rfl, HV.out⟩, by omega⟩
  case round =>
    obtain ⟨i, acc, a, hwi, rfl, rfl, hi, a0, a1, hh, hg⟩ := hrel
    subst hwi
    have HG := Lib.hid hg
    clear hg HV
    by_cases hlt : i < s.size
    · have hd := drop_byte s i hlt
      have hok := HALL.out s[i] (List.mem_of_mem_drop (by rw [hd]; exact List.mem_cons_self))
      obtain ⟨c, hc⟩ : ∃ c, s[i] = c := ⟨_, rfl⟩
      rw [hc] at hd hok
      have hdv := digV_hex c hok
      obtain ⟨d, hdd⟩ : ∃ d : Int, d = (digV c : Int) := ⟨_, rfl⟩
      have d0 : 0 ≤ d := by omega
      have d1 : d ≤ 15 := by omega
      have HOK := Lib.hid hok
      have HD := Lib.hid hd
      have HDD := Lib.hid hdd
      clear hok hd hdv hdd
      by_cases hov : 18446744073709551615 < 10 * a + d
      · have HF := Lib.hid (show 18446744073709551616 ≤ V by
          have h1 := hh.out
          rw [HD.out, valFrom_cons] at h1
          have h2 := valFrom_ge 10 (by omega) (s.data.toList.drop (i + 1)) (10 * acc + digV c)
          have h3 := HDD.out
          omega)
        have icut : (18446744073709551615 - d) / 10 < a := by omega
        clear hov hh
        go_wp2_with (go_at_call 76; refine (rdigit_any c _ HOK.out).mono ?_; rintro e w' ⟨rfl, rfl⟩; rw [← HDD.out])
        go_ret2
        exact ⟨rval_no HF.out, rfl⟩
      · have HN := Lib.hid (show 10 * a + d = ((10 * acc + digV c : Nat) : Int) ∧ V = valFrom 10 (10 * acc + digV c) (s.data.toList.drop (i + 1)) by
          have h1 := hh.out
          rw [HD.out, valFrom_cons] at h1
          have h3 := HDD.out
          exact ⟨by omega, h1.2⟩)
        have icut : ¬ (18446744073709551615 - d) / 10 < a := by omega
        have iov : 10 * a + d < 18446744073709551616 := by omega
        clear hov hh
        go_wp2_with (go_at_call 76; refine (rdigit_any c _ HOK.out).mono ?_; rintro e w' ⟨rfl, rfl⟩; rw [← HDD.out])
        go_roundg (gk - 1)
        case measure => have := HG.out; omega
        case rel => exact ⟨i + 1, 10 * acc + digV c, 10 * a + d, rfl, rfl, by go_num, by omega, by omega, iov, HN, by have := HG.out; omega⟩
    · have HF := Lib.hid (show V = acc by rw [hh.out.2, List.drop_eq_nil_of_le (by simp; omega)]; rfl)
      have HA := Lib.hid hh.out.1
      have HE := Lib.hid (show Ending.returned (.tuple #[.int .u64 a, .bool true]) = rval V by rw [HA.out, HF.out]; exact rval_ok (by have := HA.out; omega))
      clear hh
      go_wp2_with fail
      go_ret2
      exact ⟨HE.out, rfl⟩

set_option maxRecDepth 100000 in
set_option maxHeartbeats 8000000 in
theorem rvalue_16 (s : ByteArray) (w : World) (hs : s.size ≤ 2147483640) (hall : ∀ c ∈ s.data.toList, isHex c = true) :
    Calls Tryz.prog 61 #[.string s, .int .u64 16] w fun e w' => e = rval (valOf 16 s.data.toList) ∧ w = w' := by
  obtain ⟨V, hV⟩ : ∃ V, V = valOf 16 s.data.toList := ⟨_, rfl⟩
  rw [← hV]
  have HV := Lib.hid hV
  have HALL := Lib.hid hall
  clear hV hall
  go_enter Tryz.func61, Tryz.ntmps61
  go_wp2_with fail
  go_loopg [6, 7] s.size (fun g vx vi wr => ∃ (i acc : Nat) (a : Int), w = wr ∧ vx = .int .u64 a ∧ vi = .int .i64 i ∧ i ≤ s.size ∧ 0 ≤ a ∧ a < 18446744073709551616 ∧ Hid (a = (acc : Int) ∧ V = valFrom 16 acc (s.data.toList.drop i)) ∧ g + i = s.size)
  case atStart => exact ⟨0, 0, 0, rfl, rfl, rfl, by omega, by omega, by omega, Lib.hid ⟨rfl, HV.out⟩, by omega⟩
  case round =>
    obtain ⟨i, acc, a, hwi, rfl, rfl, hi, a0, a1, hh, hg⟩ := hrel
    subst hwi
    have HG := Lib.hid hg
    clear hg HV
    by_cases hlt : i < s.size
    · have hd := drop_byte s i hlt
      have hok := HALL.out s[i] (List.mem_of_mem_drop (by rw [hd]; exact List.mem_cons_self))
      obtain ⟨c, hc⟩ : ∃ c, s[i] = c := ⟨_, rfl⟩
      rw [hc] at hd hok
      have hdv := digV_hex c hok
      obtain ⟨d, hdd⟩ : ∃ d : Int, d = (digV c : Int) := ⟨_, rfl⟩
      have d0 : 0 ≤ d := by omega
      have d1 : d ≤ 15 := by omega
      have HOK := Lib.hid hok
      have HD := Lib.hid hd
      have HDD := Lib.hid hdd
      clear hok hd hdv hdd
      by_cases hov : 18446744073709551615 < 16 * a + d
      · have HF := Lib.hid (show 18446744073709551616 ≤ V by
          have h1 := hh.out
          rw [HD.out, valFrom_cons] at h1
          have h2 := valFrom_ge 16 (by omega) (s.data.toList.drop (i + 1)) (16 * acc + digV c)
          have h3 := HDD.out
          omega)
        have icut : (18446744073709551615 - d) / 16 < a := by omega
        clear hov hh
        go_wp2_with (go_at_call 76; refine (rdigit_any c _ HOK.out).mono ?_; rintro e w' ⟨rfl, rfl⟩; rw [← HDD.out])
        go_ret2
        exact ⟨rval_no HF.out, rfl⟩
      · have HN := Lib.hid (show 16 * a + d = ((16 * acc + digV c : Nat) : Int) ∧ V = valFrom 16 (16 * acc + digV c) (s.data.toList.drop (i + 1)) by
          have h1 := hh.out
          rw [HD.out, valFrom_cons] at h1
          have h3 := HDD.out
          exact ⟨by omega, h1.2⟩)
        have icut : ¬ (18446744073709551615 - d) / 16 < a := by omega
        have iov : 16 * a + d < 18446744073709551616 := by omega
        clear hov hh
        go_wp2_with (go_at_call 76; refine (rdigit_any c _ HOK.out).mono ?_; rintro e w' ⟨rfl, rfl⟩; rw [← HDD.out])
        go_roundg (gk - 1)
        case measure => have := HG.out; omega
        case rel => exact ⟨i + 1, 16 * acc + digV c, 16 * a + d, rfl, rfl, by go_num, by omega, by omega, iov, HN, by have := HG.out; omega⟩
    · have HF := Lib.hid (show V = acc by rw [hh.out.2, List.drop_eq_nil_of_le (by simp; omega)]; rfl)
      have HA := Lib.hid hh.out.1
      have HE := Lib.hid (show Ending.returned (.tuple #[.int .u64 a, .bool true]) = rval V by rw [HA.out, HF.out]; exact rval_ok (by have := HA.out; omega))
      clear hh
      go_wp2_with fail
      go_ret2
      exact ⟨HE.out, rfl⟩
end Go.Proofs.YtbdheihjnkfpiaaGreatDoor
