/-
  The document's answer walked: Told, Print, Same.
-/
import Derived.Test.YtinodapgldbljaaGreatDoorRp
import Derived.Test.YtinodapgldbljaaGreatDoorVr
import Derived.Test.YtinodapgldbljaaGreatDoorVs
import Derived.BigQuiet
import Derived.Deep.QuietTactic
namespace Go.Proofs.YtinodapgldbljaaGreatDoor
open Go Go.RowKit
/-- A token of a row, in all worlds behind. -/
theorem Toks.at4 {w : World} {a : Option Addr} {l : List PT} (h : Toks w a l) (k : Nat) (hk : k < l.length) : ∃ b off, a = some ⟨b, off, none⟩ ∧ ∀ wx, Fr No w wx → wx.cell? ⟨b, off + k * 4, none⟩ = some (.int .i64 l[k].kind) ∧ wx.cell? ⟨b, off + k * 4 + 1, none⟩ = some (.int .i64 l[k].place) ∧ wx.cell? ⟨b, off + k * 4 + 2, none⟩ = some (.string ⟨l[k].text.toArray⟩) ∧ wx.cell? ⟨b, off + k * 4 + 3, none⟩ = some (.int .u64 l[k].num) := by
  obtain ⟨b, off, ha, hb, c0, c1, c2, c3⟩ := h.cells4 k hk
  exact ⟨b, off, ha, fun wx hf => ⟨(hf.cell (p := ⟨b, off + k * 4, none⟩) hb id).trans c0, (hf.cell (p := ⟨b, off + k * 4 + 1, none⟩) hb id).trans c1, (hf.cell (p := ⟨b, off + k * 4 + 2, none⟩) hb id).trans c2, (hf.cell (p := ⟨b, off + k * 4 + 3, none⟩) hb id).trans c3⟩⟩
theorem Fr.tab' {w W : World} (h : Fr No w W) (ht : Lib.TabIs Tryz.prog w "internal/strconv.uint64pow10" .u64 Lib.pow10Tab) : Lib.TabIs Tryz.prog W "internal/strconv.uint64pow10" .u64 Lib.pow10Tab := tabIs_below ht h.toBelow
set_option maxRecDepth 100000 in
set_option maxHeartbeats 4000000 in
theorem rtold_any (t : PT) (w : World) (htab : Lib.TabIs Tryz.prog w "internal/strconv.uint64pow10" .u64 Lib.pow10Tab) (hn : t.num < 18446744073709551616) (hts : t.text.length ≤ 1000000000) :
    Calls Tryz.prog 36 #[ptV t] w fun e w' => e = .returned (.string ⟨(told t).toArray⟩) ∧ Fr No w w' := by
  have HF := Lib.hid ((Fr.refl No w).alloc (.cells #[.int .i64 t.kind, .int .i64 t.place, .string ⟨t.text.toArray⟩, .int .u64 t.num] 33))
  obtain ⟨D, hD⟩ : ∃ D : ByteArray, D = ⟨(told t).toArray⟩ := ⟨_, rfl⟩
  rw [← hD]
  unfold ptV ptCells
  have HT := Lib.hid htab
  clear htab
  by_cases h2 : t.kind = 2
  · have h2b : ((t.kind : Int) == 2) = true := by rw [h2]; rfl
    have htd : told t = Lib.decDigits t.num := by unfold told; rw [if_pos h2]
    have HFM := fun wx ht => fmtUint_any t.num hn wx ht
    rw [← htd, ← hD] at HFM
    have HFM := Lib.hid HFM
    clear h2 htd hn hD
    go_enter Tryz.func36, Tryz.ntmps36
    go_wp2_with (go_at_call 32; go_must (refine (HFM.out _ (by exact HF.out.tab' HT.out)).mono ?_); rintro e w' ⟨rfl, hf⟩)
    go_ret
    exact ⟨rfl, HF.out.trans_same hf⟩
  · have h2b : ((t.kind : Int) == 2) = false := beq_eq_false_iff_ne.2 (by omega)
    by_cases h3 : t.kind = 3
    · have h3b : ((t.kind : Int) == 3) = true := by rw [h3]; rfl
      have htd : told t = quote t.text := by unfold told; rw [if_neg h2, if_pos h3]
      have HFM := fun wx => rquote_any ⟨t.text.toArray⟩ wx (by show t.text.toArray.size ≤ _; rw [List.size_toArray]; omega)
      rw [show (⟨t.text.toArray⟩ : ByteArray).data.toList = t.text from rfl, ← htd, ← hD] at HFM
      have HFM := Lib.hid HFM
      clear h2 h3 htd hn hD
      go_enter Tryz.func36, Tryz.ntmps36
      go_wp2_with (go_at_call 18; go_must (refine (HFM.out _).mono ?_); rintro e w' ⟨rfl, hf⟩)
      go_ret
      exact ⟨rfl, HF.out.trans_same hf⟩
    · have h3b : ((t.kind : Int) == 3) = false := beq_eq_false_iff_ne.2 (by omega)
      have htd : D = ⟨t.text.toArray⟩ := by rw [hD]; unfold told; rw [if_neg h2, if_neg h3]
      subst htd
      clear h2 h3 hD
      go_enter Tryz.func36, Tryz.ntmps36
      go_wp2_with fail
      go_ret
      exact ⟨rfl, HF.out⟩
set_option maxRecDepth 100000 in
set_option maxHeartbeats 4000000 in
theorem rprint_any (a : Option Addr) (cp : Nat) (l : List PT) (w : World) (hl : Toks w a l) (hbig : l.length ≤ 1000000000) (hnum : ∀ t ∈ l, t.num < 18446744073709551616) (htx : ∀ t ∈ l, t.text.length ≤ 1000000000)
    (htab : Lib.TabIs Tryz.prog w "internal/strconv.uint64pow10" .u64 Lib.pow10Tab) (hlen : (tellR true l).length ≤ 1000000000) :
    Calls Tryz.prog 14 #[.slice a l.length cp] w fun e w' => e = .returned (.tuple #[.string ⟨(print14 l).1.toArray⟩, .int .i64 (print14 l).2]) ∧ Fr No w w' := by
  have HL := Lib.hid (And.intro hl (And.intro hnum (And.intro htab htx)))
  clear hl hnum htab htx
  obtain ⟨n, hn⟩ : ∃ n, l.length = n := ⟨_, rfl⟩
  rw [hn] at hbig ⊢
  obtain ⟨S, hS⟩ : ∃ S, S = tellR true l := ⟨_, rfl⟩
  rw [← hS] at hlen
  obtain ⟨M, hM⟩ : ∃ M, S.length = M := ⟨_, rfl⟩
  rw [hM] at hlen
  have HS := Lib.hid (And.intro hS (And.intro hn hM))
  clear hS hn hM
  go_enter Tryz.func14, Tryz.ntmps14
  go_wp2_with fail
  go_loopg [4, 5] n (fun g v4 v5 wr => ∃ (k : Nat) (o : ByteArray), v5 = .int .i64 k ∧ v4 = .string o ∧ k ≤ n ∧ o.size ≤ M ∧ Hid (Fr No w wr ∧ S = o.data.toList ++ tellR (k == 0) (l.drop k) ∧ (∀ t ∈ l.take k, mayBe t = true)) ∧ g + k = n)
  case atStart => exact ⟨0, ⟨#[]⟩, rfl, rfl, by omega, Nat.zero_le _, Lib.hid ⟨Fr.refl _ _, by rw [HS.out.1]; rfl, fun t h => (List.not_mem_nil h).elim⟩, by omega⟩
  case round =>
    obtain ⟨k, o, rfl, rfl, hk, ho, HR, hg⟩ := hrel
    by_cases hlt : k < n
    · have hlt2 : (k : Int) < (n : Int) := by omega
      have hkl : k < l.length := by rw [HS.out.2.1]; exact hlt
      obtain ⟨b, off, ha, h4⟩ := HL.out.1.at4 k hkl
      subst ha
      have hmem := List.getElem_mem hkl
      have hnk := HL.out.2.1 _ hmem
      have htk := HL.out.2.2.2 _ hmem
      have HD := Lib.hid (show l.drop k = l[k] :: l.drop (k + 1) from List.drop_eq_getElem_cons hkl)
      have HTK := Lib.hid (show l.take (k + 1) = l.take k ++ [l[k]] from List.take_succ_eq_append_getElem hkl)
      have HMEM := Lib.hid hmem
      clear hmem
      generalize l[k] = t at h4 HD HTK HMEM hnk htk
      obtain ⟨d0, d1, d2, d3⟩ := h4 wr HR.out.1
      have H4 := Lib.hid h4
      clear h4
      have HMY := fun wx => rmay_any t wx (by omega)
      unfold ptV ptCells at HMY
      cases hmt : mayBe t with
      | false =>
        rw [hmt] at HMY
        have HMY := Lib.hid HMY
        have HE := Lib.hid (show print14 l = ([], 2) by
          unfold print14; rw [if_pos]; rw [List.any_eq_true]; exact ⟨t, HMEM.out, by rw [hmt]; rfl⟩)
        clear hmt
        go_wp2_with (go_at_call 35; go_must (refine (HMY.out _).mono ?_); rintro e w2 ⟨rfl, hf2⟩)
        go_ret2
        exact ⟨by rw [HE.out]; rfl, HR.out.1.trans_same hf2⟩
      | true =>
        rw [hmt] at HMY
        have HMY := Lib.hid HMY
        have HTO := fun wx ht => rtold_any t wx ht hnk htk
        unfold ptV ptCells at HTO
        obtain ⟨D, hD⟩ : ∃ D : ByteArray, D = ⟨(told t).toArray⟩ := ⟨_, rfl⟩
        rw [← hD] at HTO
        have HTO := Lib.hid HTO
        have hDs : D.size = (told t).length := by rw [hD]; rfl
        have HDT := Lib.hid (show D.data.toList = told t by rw [hD])
        have HMK : Hid (∀ t ∈ l.take (k + 1), mayBe t = true) := Lib.hid (by
          rw [HTK.out]
          intro t' ht'
          rcases List.mem_append.1 ht' with h | h
          · exact HR.out.2.2 t' h
          · have : t' = t := by simpa using h
            rw [this]; exact hmt)
        clear hmt hD
        by_cases hk0 : k = 0
        · have h0 : ¬ (0 : Int) < (k : Int) := by omega
          have HS2 : Hid (S = (o ++ D).data.toList ++ tellR false (l.drop (k + 1))) := Lib.hid (by
            rw [HR.out.2.1, HD.out, tellR, show (k == 0) = true by rw [hk0]; rfl]; simp [HDT.out])
          have hsz : o.size + D.size ≤ M := by
            have h := congrArg List.length HS2.out
            rw [HS.out.2.2] at h
            simp only [ByteArray.data_append, Array.toList_append, List.length_append, Array.length_toList] at h
            have h1 : o.data.size = o.size := rfl
            have h2 : D.data.size = D.size := rfl
            omega
          clear hk0 hDs
          go_wp2_with (first | (go_at_call 35; go_must (refine (HMY.out _).mono ?_); rintro e w2 ⟨rfl, hf2⟩; have HF2 := Lib.hid (HR.out.1.trans_same hf2); clear hf2; obtain ⟨e0, e1, e2, e3⟩ := H4.out w2 HF2.out) | (go_at_call 36; go_must (refine (HTO.out _ (by exact HF2.out.tab' HL.out.2.2.1)).mono ?_); rintro e w3 ⟨rfl, hf3⟩))
          go_roundg (gk - 1)
          case measure => omega
          case rel => exact ⟨k + 1, _, by go_num, rfl, by omega, by rw [ByteArray.size_append']; omega, Lib.hid ⟨HF2.out.trans_same hf3, HS2.out, HMK.out⟩, by omega⟩
        · have h0 : (0 : Int) < (k : Int) := by omega
          have HS2 : Hid (S = (o ++ ⟨#[32]⟩ ++ D).data.toList ++ tellR false (l.drop (k + 1))) := Lib.hid (by
            rw [HR.out.2.1, HD.out, tellR, show (k == 0) = false by simpa using hk0]; simp [HDT.out])
          have hsz : o.size + 1 + D.size ≤ M := by
            have h := congrArg List.length HS2.out
            rw [HS.out.2.2] at h
            simp only [ByteArray.data_append, Array.toList_append, List.length_append, Array.length_toList, List.length_cons, List.length_nil] at h
            have h1 : o.data.size = o.size := rfl
            have h2 : D.data.size = D.size := rfl
            have h3 : (#[(32 : UInt8)] : Array UInt8).size = 1 := rfl
            omega
          clear hk0 hDs
          go_wp2_with (first | (go_at_call 35; go_must (refine (HMY.out _).mono ?_); rintro e w2 ⟨rfl, hf2⟩; have HF2 := Lib.hid (HR.out.1.trans_same hf2); clear hf2; obtain ⟨e0, e1, e2, e3⟩ := H4.out w2 HF2.out) | (go_at_call 36; go_must (refine (HTO.out _ (by exact HF2.out.tab' HL.out.2.2.1)).mono ?_); rintro e w3 ⟨rfl, hf3⟩))
          go_roundg (gk - 1)
          case measure => omega
          case rel => exact ⟨k + 1, _, by go_num, rfl, by omega, by rw [ByteArray.size_append', ByteArray.size_append', one_size]; omega, Lib.hid ⟨HF2.out.trans_same hf3, HS2.out, HMK.out⟩, by omega⟩
    · have hlt2 : ¬ (k : Int) < (n : Int) := by omega
      have hks : k = l.length := by rw [HS.out.2.1]; omega
      have hS2 : S = o.data.toList := by
        rw [HR.out.2.1, List.drop_eq_nil_of_le (by omega)]; simp [tellR]
      have hSo : o.size = M := by rw [← HS.out.2.2, hS2]; simp
      have hpr : print14 l = if maxText < S.length then ([], 3) else (S, 0) := by
        unfold print14
        rw [if_neg, ← HS.out.1]
        rw [List.any_eq_true]
        rintro ⟨t, ht, hm⟩
        rw [HR.out.2.2 t (by rw [hks, List.take_of_length_le (Nat.le_refl _)]; exact ht)] at hm
        cases hm
      rw [HS.out.2.2] at hpr
      by_cases hm : 1048576 < M
      · have hm2 : (1048576 : Int) < (o.size : Int) := by omega
        have HF := Lib.hid (show (print14 l) = ([], 3) by rw [hpr, if_pos (by unfold maxText; omega)])
        clear hpr hm hks hS2 hSo
        go_wp2_with fail
        go_ret2
        exact ⟨by rw [HF.out]; rfl, HR.out.1⟩
      · have hm2 : ¬ (1048576 : Int) < (o.size : Int) := by omega
        have HF := Lib.hid (show (⟨(print14 l).1.toArray⟩ : ByteArray) = o ∧ (print14 l).2 = 0 by rw [hpr, if_neg (by unfold maxText; omega)]; exact ⟨by rw [hS2], rfl⟩)
        clear hpr hm hks hS2 hSo
        go_wp2_with fail
        go_ret2
        exact ⟨by rw [HF.out.1, HF.out.2]; rfl, HR.out.1⟩
set_option maxRecDepth 100000 in
set_option maxHeartbeats 8000000 in
theorem rsame_any (a b : Option Addr) (c d : Nat) (l k : List PT) (w : World) (hl : Toks w a l) (hk : Toks w b k) (hbl : l.length ≤ 1000000000) (hbk : k.length ≤ 1000000000) :
    Calls Tryz.prog 16 #[.slice a l.length c, .slice b k.length d] w fun e w' => e = .returned (.bool (same14 l k)) ∧ Fr No w w' := by
  obtain ⟨R, hR⟩ : ∃ R, same14 l k = R := ⟨_, rfl⟩
  rw [hR]
  have HL := Lib.hid (And.intro hl hk)
  have HR := Lib.hid hR
  clear hl hk hR
  obtain ⟨n, hn⟩ : ∃ n, l.length = n := ⟨_, rfl⟩
  obtain ⟨m, hm⟩ : ∃ m, k.length = m := ⟨_, rfl⟩
  rw [hn] at hbl ⊢
  rw [hm] at hbk ⊢
  by_cases hnm : n = m
  · subst hnm
    have HN := Lib.hid (And.intro hn hm)
    clear hn hm
    have hne : ((n : Int) != (n : Int)) = false := by simp
    go_enter Tryz.func16, Tryz.ntmps16
    go_wp2_with fail
    go_loopg [5] n (fun g v wr => ∃ i : Nat, v = .int .i64 i ∧ i ≤ n ∧ Hid (Fr No w wr ∧ R = same14 (l.drop i) (k.drop i)) ∧ g + i = n)
    case atStart => exact ⟨0, rfl, by omega, Lib.hid ⟨Fr.refl _ _, by rw [← HR.out]; rfl⟩, by omega⟩
    case round =>
      obtain ⟨i, rfl, hi, HT, hg⟩ := hrel
      by_cases hlt : i < n
      · have hlt2 : (i : Int) < (n : Int) := by omega
        have h1 : i < l.length := by rw [HN.out.1]; exact hlt
        have h2 : i < k.length := by rw [HN.out.2]; exact hlt
        obtain ⟨b1, o1, ha, hb1, c0, c1, c2, c3⟩ := (HL.out.1.fr HT.out.1).cells4 i h1
        obtain ⟨b2, o2, hb, hb2, d0, d1, d2, d3⟩ := (HL.out.2.fr HT.out.1).cells4 i h2
        subst ha
        subst hb
        have hT := HT.out.2
        rw [same14_at l k i h1 h2] at hT
        generalize l[i] = x at c0 c1 c2 c3 hT
        generalize k[i] = y at d0 d1 d2 d3 hT
        obtain ⟨k1, p1, t1, n1⟩ := x
        obtain ⟨k2, p2, t2, n2⟩ := y
        unfold sameOne at hT
        dsimp only at c0 c1 c2 c3 d0 d1 d2 d3 hT
        obtain ⟨X, hX⟩ : ∃ X : ByteArray, X = ⟨t1.toArray⟩ := ⟨_, rfl⟩
        obtain ⟨Y, hY⟩ : ∃ Y : ByteArray, Y = ⟨t2.toArray⟩ := ⟨_, rfl⟩
        rw [← hX] at c2
        rw [← hY] at d2
        have e2 : (X.toList == Y.toList) = (t1 == t2) := by rw [ByteArray.toList_eq, ByteArray.toList_eq, hX, hY]
        have e3 := int_nat n1 n2
        clear hX hY h1 h2
        obtain ⟨q1, e1⟩ : ∃ q1, (k1 == k2) = q1 := ⟨_, rfl⟩
        rw [e1] at hT
        generalize (t1 == t2) = q2 at e2 hT
        generalize (n1 == n2) = q3 at e3 hT
        have f1 : (k1 != k2) = !q1 := by rw [bne, e1]
        have f2 : (X.toList != Y.toList) = !q2 := by rw [bne, e2]
        have f3 : ((n1 : Int) != (n2 : Int)) = !q3 := by rw [bne, e3]
        have HF := Lib.hid HT.out.1
        by_cases hq : (q1 && (q2 && q3)) = true
        · simp only [Bool.and_eq_true] at hq
          obtain ⟨rfl, rfl, rfl⟩ := hq
          simp only [Bool.not_true] at f1 f2 f3
          have HT2 := Lib.hid (show R = same14 (l.drop (i + 1)) (k.drop (i + 1)) by rw [hT]; rfl)
          clear hT HT
          go_wp2_with (first | go_quiet (fail))
          go_roundg (gk - 1)
          case measure => omega
          case rel => exact ⟨i + 1, by go_num, by omega, Lib.hid ⟨HF.out.drewN _, HT2.out⟩, by omega⟩
        · have HT2 := Lib.hid (show R = false by rw [hT, Bool.eq_false_iff.2 hq]; rfl)
          clear hT HT
          cases q1 <;> cases q2 <;> cases q3 <;> first | exact absurd rfl hq | skip
          all_goals
            clear hq
            simp only [Bool.not_true, Bool.not_false] at f1 f2 f3
            go_wp2_with (first | go_quiet (fail))
            go_ret
            exact ⟨by rw [HT2.out]; rfl, HF.out.drewN _⟩
      · have hlt2 : ¬ (i : Int) < (n : Int) := by omega
        have HT2 := Lib.hid (show R = true by rw [HT.out.2, List.drop_eq_nil_of_le (by rw [HN.out.1]; omega), List.drop_eq_nil_of_le (by rw [HN.out.2]; omega)]; rfl)
        go_wp2_with fail
        go_ret
        exact ⟨by rw [HT2.out]; rfl, HT.out.1⟩
  · have HRF : Hid (R = false) := Lib.hid (by
      cases R with
      | false => rfl
      | true => exact absurd (by rw [← hn, ← hm]; exact same14_len' _ _ HR.out) hnm)
    have hne : ((n : Int) != (m : Int)) = true := by simp; omega
    clear hnm hn hm
    go_enter Tryz.func16, Tryz.ntmps16
    go_wp2_with fail
    go_ret
    exact ⟨by rw [HRF.out]; rfl, Fr.refl _ _⟩
end Go.Proofs.YtinodapgldbljaaGreatDoor
