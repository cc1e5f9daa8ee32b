/-
  The document's digit and number walked.
-/
import Derived.Test.YtjidpccgjiogbaaGreatDoorRl
namespace Go.Proofs.YtjidpccgjiogbaaGreatDoor
open Go Go.RowKit
/-- What a digit counts. -/
def dig31 (c : UInt8) : Int := if 97 ≤ c.toNat ∧ c.toNat ≤ 102 then c.toNat - 87 else if 48 ≤ c.toNat ∧ c.toNat ≤ 57 then c.toNat - 48 else 0
theorem dig31_range (c : UInt8) : 0 ≤ dig31 c ∧ dig31 c ≤ 15 := by unfold dig31; split; omega; split <;> omega
/-- Digits, counted below 0. -/
def numLoop : Bytes → Int → Option Int
  | [], n => some n
  | c :: l, n => if 9 < dig31 c ∨ n < Int.tdiv (-9223372036854775808 + dig31 c) 10 then none else numLoop l (10 * n - dig31 c)
def numTail (neg : Bool) (s : Bytes) : Int := if 19 < s.length then 0 else match numLoop s 0 with | none => 0 | some n => if neg then n else if n = -9223372036854775808 then n else -n
def number31 (s : Bytes) : Int := if s.head? = some 45 then numTail true s.tail else numTail false s
set_option maxHeartbeats 2000000 in
theorem rdigit_any (c : UInt8) (w : World) : Calls Tryz.prog 39 #[.int .u8 c.toNat] w fun e w' => e = .returned (.int .i64 (dig31 c)) ∧ w = w' := by
  obtain ⟨D, hD⟩ : ∃ D, D = dig31 c := ⟨_, rfl⟩
  rw [← hD]
  have hc := c.toNat_lt
  unfold dig31 at hD
  by_cases h1 : 97 ≤ c.toNat
  · by_cases h2 : c.toNat ≤ 102
    · rw [if_pos ⟨h1, h2⟩] at hD
      have HD := Lib.hid hD
      have t1 : (97 : Int) ≤ (c.toNat : Int) := by omega
      have t2 : (c.toNat : Int) ≤ 102 := by omega
      clear hD
      go_enter Tryz.func39, Tryz.ntmps39
      go_wp2_with fail
      go_ret
      exact ⟨ret_i64 (by have := HD.out; omega), rfl⟩
    · rw [if_neg (by omega), if_neg (by omega)] at hD
      have HD := Lib.hid hD
      have t1 : (97 : Int) ≤ (c.toNat : Int) := by omega
      have t2 : ¬ (c.toNat : Int) ≤ 102 := by omega
      have t3 : ¬ (c.toNat : Int) ≤ 57 := by omega
      have t4 : (48 : Int) ≤ (c.toNat : Int) := by omega
      clear hD
      go_enter Tryz.func39, Tryz.ntmps39
      go_wp2_with fail
      go_ret
      exact ⟨ret_i64 (by have := HD.out; omega), rfl⟩
  · have t1 : ¬ (97 : Int) ≤ (c.toNat : Int) := by omega
    by_cases h2 : 48 ≤ c.toNat ∧ c.toNat ≤ 57
    · rw [if_neg (by omega), if_pos h2] at hD
      have HD := Lib.hid hD
      have t2 : (48 : Int) ≤ (c.toNat : Int) := by omega
      have t3 : (c.toNat : Int) ≤ 57 := by omega
      clear hD
      go_enter Tryz.func39, Tryz.ntmps39
      go_wp2_with fail
      go_ret
      exact ⟨ret_i64 (by have := HD.out; omega), rfl⟩
    · rw [if_neg (by omega), if_neg h2] at hD
      have HD := Lib.hid hD
      clear hD
      by_cases h3 : (48 : Int) ≤ (c.toNat : Int)
      · have t3 : ¬ (c.toNat : Int) ≤ 57 := by omega
        go_enter Tryz.func39, Tryz.ntmps39
        go_wp2_with fail
        go_ret
        exact ⟨ret_i64 (by have := HD.out; omega), rfl⟩
      · go_enter Tryz.func39, Tryz.ntmps39
        go_wp2_with fail
        go_ret
        exact ⟨ret_i64 (by have := HD.out; omega), rfl⟩
theorem drop_byte (s : ByteArray) (k : Nat) (h : k < s.size) : s.data.toList.drop k = s[k] :: s.data.toList.drop (k + 1) := by
  rw [List.drop_eq_getElem_cons (by simpa using h)]; rfl
set_option maxRecDepth 100000 in
set_option maxHeartbeats 8000000 in
theorem rnumber_any (s : ByteArray) (w : World) (hs : s.size ≤ 1000000000) :
    Calls Tryz.prog 38 #[.string s] w fun e w' => e = .returned (.int .i64 (number31 s.data.toList)) ∧ w = w' := by
  obtain ⟨R, hR⟩ : ∃ R, R = number31 s.data.toList := ⟨_, rfl⟩
  rw [← hR]
  obtain ⟨neg, t, ht, hneg⟩ : ∃ (neg : Bool) (t : ByteArray), R = numTail neg t.data.toList ∧ ((neg = true ∧ s.extract 1 s.size = t ∧ 0 < s.size ∧ ∀ h : 0 < s.size, s[0] = 45) ∨ (neg = false ∧ s = t ∧ (s.size = 0 ∨ ∀ h : 0 < s.size, s[0] ≠ 45))) := by
    by_cases h0 : 0 < s.size
    · have hd := drop_byte s 0 h0
      rw [List.drop_zero] at hd
      by_cases h1 : s[0] = 45
      · refine ⟨true, s.extract 1 s.size, ?_, .inl ⟨rfl, rfl, h0, fun _ => h1⟩⟩
        rw [hR, number31, hd, if_pos (by rw [h1]; rfl)]
        congr 1
        rw [ByteArray.data_extract]
        simp
        exact (List.take_of_length_le (by simp)).symm
      · refine ⟨false, s, ?_, .inr ⟨rfl, rfl, .inr fun _ => h1⟩⟩
        rw [hR, number31, if_neg]
        rw [hd]
        simpa using h1
    · refine ⟨false, s, ?_, .inr ⟨rfl, rfl, .inl (by omega)⟩⟩
      have hl : s.data.toList.length = s.size := by simp
      have : s.data.toList = [] := List.eq_nil_of_length_eq_zero (by omega)
      rw [hR, number31, this]; rfl
  have HT := Lib.hid ht
  have hts : t.size ≤ 1000000000 := by rcases hneg with ⟨_, h, _⟩ | ⟨_, h, _⟩ <;> (rw [← h]; try simp) <;> omega
  clear hR ht
  go_enter Tryz.func38, Tryz.ntmps38
  go_upto_region 1 with fail
  go_cut [3] (fun v wx => w = wx ∧ v = .bool neg)
  case first =>
    rcases hneg with ⟨rfl, h2, h0, h1⟩ | ⟨rfl, h2, h | h1⟩ <;> clear h2
    · have t0 : (0 : Int) < (s.size : Int) := by omega
      obtain ⟨c, hc⟩ : ∃ c, s[0]'h0 = c := ⟨_, rfl⟩
      have t1 : ((c.toNat : Int) == 45) = true := by rw [← hc, h1 h0]; rfl
      go_wp2_with fail
      go_meet
      exact ⟨rfl, rfl⟩
    · have t0 : decide ((0 : Int) < (s.size : Int)) = false := decide_eq_false (by omega)
      have t1 : decide (0 < s.size) = false := decide_eq_false (by omega)
      go_wp2_with fail
      go_meet
      exact ⟨rfl, rfl⟩
    · by_cases h0 : 0 < s.size
      · have t0 : (0 : Int) < (s.size : Int) := by omega
        obtain ⟨c, hc⟩ : ∃ c, s[0]'h0 = c := ⟨_, rfl⟩
        have t1 : ((c.toNat : Int) == 45) = false := by
          rw [← hc, beq_eq_false_iff_ne]
          intro e
          exact h1 h0 (UInt8.toNat_inj.1 (by have e2 : (45 : UInt8).toNat = 45 := rfl; omega))
        go_wp2_with fail
        go_meet
        exact ⟨rfl, rfl⟩
      · have t0 : decide ((0 : Int) < (s.size : Int)) = false := decide_eq_false (by omega)
        have t1 : decide (0 < s.size) = false := decide_eq_false (by omega)
        go_wp2_with fail
        go_meet
        exact ⟨rfl, rfl⟩
  case rest =>
    obtain ⟨rfl, rfl⟩ := hcut
    go_upto_if 15 with fail
    go_cut [0] (fun v wx => w = wx ∧ v = .string t)
    case first =>
      rcases hneg with ⟨rfl, h2, h0, _⟩ | ⟨rfl, h2, _⟩
      · have t0 : (1 : Int) ≤ (s.size : Int) := by omega
        go_wp2_with fail
        go_meet
        exact ⟨rfl, rfl⟩
      · have H2 := Lib.hid h2
        clear h2
        go_wp2_with fail
        go_meet
        exact ⟨rfl, by rw [H2.out]⟩
    case rest =>
      obtain ⟨rfl, rfl⟩ := hcut
      clear hneg
      by_cases h19 : 19 < t.size
      · have t0 : (19 : Int) < (t.size : Int) := by omega
        have HE : Hid (0 = R) := Lib.hid (by rw [HT.out, numTail, if_pos (by simpa using h19)])
        go_wp2_with fail
        go_ret
        exact ⟨ret_i64 HE.out, rfl⟩
      · have t0 : ¬ (19 : Int) < (t.size : Int) := by omega
        have HR : Hid (R = match numLoop t.data.toList 0 with | none => 0 | some n => if neg then n else if n = -9223372036854775808 then n else -n) := Lib.hid (by
          rw [HT.out, numTail, if_neg (by simpa using h19)])
        clear HT
        go_wp2_with fail
        go_loopg [4, 5] t.size (fun g v4 v5 wr => ∃ (n : Int) (i : Nat), w = wr ∧ v4 = .int .i64 n ∧ v5 = .int .i64 i ∧ i ≤ t.size ∧ -9223372036854775808 ≤ n ∧ n ≤ 0 ∧ Hid (numLoop t.data.toList 0 = numLoop (t.data.toList.drop i) n) ∧ g + i = t.size)
        case atStart => exact ⟨0, 0, rfl, rfl, rfl, by omega, by omega, by omega, Lib.hid rfl, by omega⟩
        case round =>
          obtain ⟨n, i, rfl, rfl, rfl, hi, n0, n1, HL, hg⟩ := hrel
          have HG := Lib.hid hg
          clear hg
          by_cases hlt : i < t.size
          · have hlti : (i : Int) < (t.size : Int) := by omega
            have hd := drop_byte t i hlt
            obtain ⟨c, hc⟩ : ∃ c, t[i] = c := ⟨_, rfl⟩
            rw [hc] at hd
            have HD := Lib.hid (HL.out.trans (by rw [hd]))
            clear hd HL
            have hdr := dig31_range c
            have HC := Lib.hid (fun wx => rdigit_any c wx)
            obtain ⟨d, hdd⟩ : ∃ d, dig31 c = d := ⟨_, rfl⟩
            rw [hdd] at hdr HC
            obtain ⟨d0, d1⟩ := hdr
            have HDD := Lib.hid hdd
            clear hdd
            obtain ⟨q, hq⟩ : ∃ q, Int.tdiv (-9223372036854775808 + d) 10 = q := ⟨_, rfl⟩
            have hq2 : -922337203685477580 ≤ q ∧ q ≤ -922337203685477578 ∧ -9223372036854775808 + d ≤ 10 * q := by
              rw [← hq, show -9223372036854775808 + d = -(9223372036854775808 - d) by omega, Int.neg_tdiv, Int.tdiv_eq_ediv_of_nonneg (by omega)]
              omega
            obtain ⟨hq3, hq4, hq5⟩ := hq2
            by_cases h9 : 9 < d
            · have HE : Hid (0 = R) := Lib.hid (by rw [HR.out, HD.out, numLoop, if_pos (.inl (by rw [HDD.out]; exact h9))])
              go_wp2_with (go_at_call 39; refine (HC.out _).mono ?_; rintro e w' ⟨rfl, rfl⟩)
              go_ret
              exact ⟨ret_i64 HE.out, rfl⟩
            · have t9 : decide (9 < d) = false := decide_eq_false h9
              by_cases hnq : n < q
              · have HE : Hid (0 = R) := Lib.hid (by rw [HR.out, HD.out, numLoop, if_pos (.inr (by rw [HDD.out, hq]; exact hnq))])
                go_wp2_with (go_at_call 39; refine (HC.out _).mono ?_; rintro e w' ⟨rfl, rfl⟩)
                go_ret
                exact ⟨ret_i64 HE.out, rfl⟩
              · have tnq : decide (n < q) = false := decide_eq_false hnq
                have HL2 : Hid (numLoop t.data.toList 0 = numLoop (t.data.toList.drop (i + 1)) (10 * n - d)) := Lib.hid (by
                  rw [HD.out, numLoop, if_neg (by rw [HDD.out, hq]; omega), HDD.out])
                have m1 : -9223372036854775808 ≤ 10 * n - d := by omega
                have m2 : 10 * n - d ≤ 0 := by omega
                have m3 : -9223372036854775808 ≤ 10 * n := by omega
                go_wp2_with (go_at_call 39; refine (HC.out _).mono ?_; rintro e w' ⟨rfl, rfl⟩)
                go_roundg (gk - 1)
                case measure => have := HG.out; omega
                case rel => exact ⟨10 * n - d, i + 1, rfl, rfl, by go_num, by omega, m1, m2, HL2, by have := HG.out; omega⟩
          · have hlti : ¬ (i : Int) < (t.size : Int) := by omega
            have HE : Hid (R = if neg then n else if n = -9223372036854775808 then n else -n) := Lib.hid (by
              rw [HR.out, HL.out, List.drop_eq_nil_of_le (by simp; omega)]; rfl)
            cases neg
            · by_cases hn : n = -9223372036854775808
              · have HE2 : Hid (-9223372036854775808 = R) := Lib.hid (by rw [HE.out, if_neg (by decide), if_pos hn, hn])
                subst hn
                go_wp2_with fail
                go_ret
                exact ⟨ret_i64 ((by kernel_rfl : wrap64 9223372036854775808 = -9223372036854775808).trans HE2.out), rfl⟩
              · have HE2 : Hid (-n = R) := Lib.hid (by rw [HE.out, if_neg (by decide), if_neg hn])
                have m1 : -n ≤ 9223372036854775807 := by omega
                go_wp2_with fail
                go_ret
                exact ⟨ret_i64 HE2.out, rfl⟩
            · have HE2 : Hid (n = R) := Lib.hid (by rw [HE.out, if_pos rfl])
              go_wp2_with fail
              go_ret
              exact ⟨ret_i64 HE2.out, rfl⟩
end Go.Proofs.YtjidpccgjiogbaaGreatDoor
