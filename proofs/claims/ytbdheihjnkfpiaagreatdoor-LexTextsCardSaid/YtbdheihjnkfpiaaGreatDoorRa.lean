/-
  The document's answer walked: is a byte among some; does a text stand at a place; where bytes among some end.
-/
import Derived.Test.YtbdheihjnkfpiaaGreatDoorWi
namespace Go.Proofs.YtbdheihjnkfpiaaGreatDoor
open Go Go.RowKit
theorem byte_beq (c d : UInt8) : ((c.toNat : Int) == (d.toNat : Int)) = (c == d) := by
  rw [Bool.eq_iff_iff, beq_iff_eq, beq_iff_eq, ← UInt8.toNat_inj]; omega
set_option maxHeartbeats 2000000 in
theorem rin_any (c : UInt8) (l : ByteArray) (w : World) (hm : l.size ≤ maxLen) :
    Calls Tryz.prog 44 #[.int .u8 c.toNat, .string l] w fun e w' => e = .returned (.bool (l.data.toList.contains c)) ∧ w = w' := by
  unfold maxLen at hm
  obtain ⟨R, hR⟩ : ∃ R, R = l.data.toList.contains c := ⟨_, rfl⟩
  rw [← hR]
  have HR := Lib.hid hR
  clear hR
  go_enter Tryz.func44, Tryz.ntmps44
  go_wp2_with fail
  go_loopg [5] l.size (fun g v wr => ∃ i : Nat, w = wr ∧ v = .int .i64 i ∧ i ≤ l.size ∧ Hid (R = (l.data.toList.drop i).contains c) ∧ g + i = l.size)
  case atStart => exact ⟨0, rfl, rfl, by omega, Lib.hid (by rw [HR.out]; rfl), by omega⟩
  case round =>
    obtain ⟨i, rfl, rfl, hi, hT, hg⟩ := hrel
    have HG := Lib.hid hg
    clear hg HR
    by_cases hlt : i < l.size
    · have hd := drop_byte l i hlt
      obtain ⟨d, hdd⟩ : ∃ d, l[i] = d := ⟨_, rfl⟩
      rw [hdd] at hd
      have HD := Lib.hid hd
      clear hd
      cases h : ((d.toNat : Int) == (c.toNat : Int))
      · have h2 : (c == d) = false := by rw [byte_beq] at h; rw [Bool.beq_comm]; exact h
        have HT := Lib.hid (show R = (l.data.toList.drop (i + 1)).contains c by rw [hT.out, HD.out, List.contains_cons, h2]; rfl)
        clear hT h2
        go_wp2_with fail
        go_roundg (gk - 1)
        case measure => have := HG.out; omega
        case rel => exact ⟨i + 1, rfl, by go_num, by omega, HT, by have := HG.out; omega⟩
      · have h2 : (c == d) = true := by rw [byte_beq] at h; rw [Bool.beq_comm]; exact h
        have HT := Lib.hid (show R = true by rw [hT.out, HD.out, List.contains_cons, h2]; rfl)
        clear hT h2
        go_wp2_with fail
        go_ret
        exact ⟨ret_b HT.out.symm, rfl⟩
    · have HT := Lib.hid (show R = false by rw [hT.out, List.drop_eq_nil_of_le (by simp; omega)]; rfl)
      clear hT
      go_wp2_with fail
      go_ret
      exact ⟨ret_b HT.out.symm, rfl⟩
set_option maxHeartbeats 2000000 in
theorem rhas_any (s : ByteArray) (k : Nat) (x : ByteArray) (w : World) (hs : s.size ≤ 2147483640) (hk : k ≤ s.size) (hx : x.size ≤ 2147483640) :
    Calls Tryz.prog 43 #[.string s, .int .i64 k, .string x] w fun e w' => e = .returned (.bool (Lib.hasPrefix (s.data.toList.drop k) x.data.toList)) ∧ w = w' := by
  by_cases h : (x.size : Int) ≤ (s.size : Int) - (k : Int)
  · obtain ⟨t, ht⟩ : ∃ t, s.extract k (k + x.size) = t := ⟨_, rfl⟩
    have htl : t.data.toList = (s.data.toList.drop k).take x.size := by rw [← ht, extract_list, Nat.add_sub_cancel_left]
    have e : Lib.hasPrefix (s.data.toList.drop k) x.data.toList = (t.toList == x.toList) := by
      rw [Lib.toList_data, Lib.toList_data, htl]
      unfold Lib.hasPrefix
      rw [Bool.eq_iff_iff, List.isPrefixOf_iff_prefix, List.prefix_iff_eq_take, beq_iff_eq]
      have : x.data.toList.length = x.size := by simp
      rw [this]
      exact eq_comm
    rw [e]
    clear e htl
    have h2 : k + x.size ≤ s.size := by omega
    go_enter Tryz.func43, Tryz.ntmps43
    go_wp2_with fail
    go_ret
    exact ⟨rfl, rfl⟩
  · have e : Lib.hasPrefix (s.data.toList.drop k) x.data.toList = false := by
      rw [Bool.eq_false_iff]
      unfold Lib.hasPrefix
      rw [Ne, List.isPrefixOf_iff_prefix]
      intro hp
      have := hp.length_le
      rw [List.length_drop] at this
      simp only [Array.length_toList] at this
      have h1 : s.data.size = s.size := rfl
      have h2 : x.data.size = x.size := rfl
      omega
    rw [e]
    clear e
    go_enter Tryz.func43, Tryz.ntmps43
    go_wp2_with fail
    go_ret
    exact ⟨rfl, rfl⟩
set_option maxHeartbeats 2000000 in
theorem rrun_any (s : ByteArray) (frm : Nat) (l : ByteArray) (w : World) (hs : s.size ≤ 2147483640) (hf : frm ≤ s.size) (hl : l.size ≤ maxLen) :
    Calls Tryz.prog 45 #[.string s, .int .i64 frm, .string l] w
      fun e w' => e = .returned (.int .i64 ((frm + ((s.data.toList.drop frm).takeWhile (l.data.toList.contains ·)).length : Nat))) ∧ w = w' := by
  obtain ⟨T, hT⟩ : ∃ T, T = frm + ((s.data.toList.drop frm).takeWhile (l.data.toList.contains ·)).length := ⟨_, rfl⟩
  rw [← hT]
  have HT := Lib.hid hT
  have HL := Lib.hid hl
  clear hT hl
  go_enter Tryz.func45, Tryz.ntmps45
  go_wp2_with fail
  go_loopg [1] (s.size - frm) (fun g v wr => ∃ k : Nat, w = wr ∧ v = .int .i64 k ∧ k ≤ s.size ∧ Hid (T = k + ((s.data.toList.drop k).takeWhile (l.data.toList.contains ·)).length) ∧ g + k = s.size)
  case atStart => exact ⟨frm, rfl, rfl, hf, HT, by omega⟩
  case round =>
    obtain ⟨k, rfl, rfl, hk, HTk, hg⟩ := hrel
    have HG := Lib.hid hg
    clear hg HT
    by_cases hlt : k < s.size
    · have hd := drop_byte s k hlt
      obtain ⟨c, hc⟩ : ∃ c, s[k] = c := ⟨_, rfl⟩
      rw [hc] at hd
      have HD := Lib.hid hd
      clear hd
      cases hw : l.data.toList.contains c
      · have e : T = k := by rw [HTk.out, HD.out, List.takeWhile_cons, hw]; rfl
        have HE := Lib.hid e
        have HW := Lib.hid hw
        clear e hw
        go_wp2_with (go_at_call 44; refine (rin_any c l _ HL.out).mono ?_; rintro e w' ⟨rfl, rfl⟩; rw [HW.out])
        go_ret
        exact ⟨ret_i (by rw [HE.out]), rfl⟩
      · have e : T = k + 1 + ((s.data.toList.drop (k + 1)).takeWhile (l.data.toList.contains ·)).length := by
          rw [HTk.out, HD.out, List.takeWhile_cons, if_pos hw, List.length_cons]; omega
        have HE := Lib.hid e
        have HW := Lib.hid hw
        clear e hw
        go_wp2_with (go_at_call 44; refine (rin_any c l _ HL.out).mono ?_; rintro e w' ⟨rfl, rfl⟩; rw [HW.out])
        go_roundg (gk - 1)
        case measure => have := HG.out; omega
        case rel => exact ⟨k + 1, rfl, by go_num, by omega, HE, by have := HG.out; omega⟩
    · have e : T = k := by rw [HTk.out, List.drop_eq_nil_of_le (by simp; omega)]; rfl
      have HE := Lib.hid e
      clear e
      go_wp2_with fail
      go_ret
      exact ⟨ret_i (by rw [HE.out]), rfl⟩
end Go.Proofs.YtbdheihjnkfpiaaGreatDoor
