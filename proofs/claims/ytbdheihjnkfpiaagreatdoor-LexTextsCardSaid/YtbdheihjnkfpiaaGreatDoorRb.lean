/-
  The document's answer walked: blanks and comments.
-/
import Derived.Test.YtbdheihjnkfpiaaGreatDoorRa
namespace Go.Proofs.YtbdheihjnkfpiaaGreatDoor
open Go Go.RowKit
theorem cls_five (c : UInt8) : cls c = 5 ↔ ((c.toNat : Int) = 32 ∨ (9 ≤ (c.toNat : Int) ∧ (c.toNat : Int) ≤ 13)) := by
  unfold cls classN
  generalize (c.toNat : Int) = x
  repeat' split
  all_goals first | (constructor <;> intro h <;> omega) | skip
theorem lineLen_cons (c : UInt8) (l : Bytes) : lineLen (c :: l) = if c = 10 then 0 else lineLen l + 1 := by
  unfold lineLen; rw [List.takeWhile_cons]
  by_cases h : c = 10
  · subst h; rfl
  · rw [if_pos (by simpa using h), if_neg h]; rfl
set_option maxRecDepth 100000 in
set_option maxHeartbeats 4000000 in
theorem rskip_any (s : ByteArray) (k : Nat) (w : World) (hs : s.size ≤ 2147483000) (hk : k ≤ s.size) :
    Calls Tryz.prog 23 #[.string s, .int .i64 k] w
      fun e w' => e = .returned (.tuple #[.int .i64 ((k + (gapLen (s.data.toList.drop k)).1 : Nat)), .bool (gapLen (s.data.toList.drop k)).2]) ∧ w = w' := by
  obtain ⟨T, ok, ho⟩ : ∃ T ok, T = k + (gapLen (s.data.toList.drop k)).1 ∧ ok = (gapLen (s.data.toList.drop k)).2 := ⟨_, _, rfl, rfl⟩
  rw [← ho.1, ← ho.2]
  have HO := Lib.hid ho
  clear ho
  go_enter Tryz.func23, Tryz.ntmps23
  go_wp2_with fail
  go_loopg [1] (s.size + 1 - k) (fun g v wr => ∃ j : Nat, w = wr ∧ v = .int .i64 j ∧ j ≤ s.size ∧ Hid (T = j + (gapLen (s.data.toList.drop j)).1 ∧ ok = (gapLen (s.data.toList.drop j)).2) ∧ g + j = s.size + 1)
  case atStart => exact ⟨k, rfl, rfl, hk, HO, by omega⟩
  case round =>
    obtain ⟨j, rfl, rfl, hj, HT, hg⟩ := hrel
    obtain ⟨G, rfl⟩ : ∃ G, G = gk := ⟨_, rfl⟩
    have HG := Lib.hid hg
    clear hg HO
    by_cases hlt : j < s.size
    · have hl := drop_byte s j hlt
      obtain ⟨c, hc⟩ : ∃ c, s[j] = c := ⟨_, rfl⟩
      rw [hc] at hl
      have HL := Lib.hid hl
      clear hl
      have cb := cls_byte c
      obtain ⟨cb0, cb1⟩ := cb
      by_cases h5 : cls c = 5
      · have hT := HT.out
        rw [HL.out, gapLen_gap h5] at hT
        have HT2 := Lib.hid hT
        have h5' := (cls_five c).1 h5
        clear hT h5 HT
        rcases h5' with h5' | ⟨h5a, h5b⟩
        · have e1 : ((c.toNat : Int) == 32) = true := by rw [h5']; rfl
          clear h5'
          go_wp2_with fail
          go_roundg (G - 1)
          case measure => have := HG.out; omega
          case rel => exact ⟨j + 1, rfl, by go_num, by omega, Lib.hid ⟨by rw [HT2.out.1]; omega, HT2.out.2⟩, by have := HG.out; omega⟩
        · have e1 : ((c.toNat : Int) == 32) = false := beq_eq_false_iff_ne.2 (by omega)
          go_wp2_with fail
          go_roundg (G - 1)
          case measure => have := HG.out; omega
          case rel => exact ⟨j + 1, rfl, by go_num, by omega, Lib.hid ⟨by rw [HT2.out.1]; omega, HT2.out.2⟩, by have := HG.out; omega⟩
      · have h5' : ¬ ((c.toNat : Int) = 32) ∧ ((c.toNat : Int) < 9 ∨ 13 < (c.toNat : Int)) := by
          refine ⟨fun e => h5 ((cls_five c).2 (.inl e)), ?_⟩
          by_cases h9 : (c.toNat : Int) < 9
          · exact .inl h9
          · by_cases h13 : 13 < (c.toNat : Int)
            · exact .inr h13
            · exact absurd ((cls_five c).2 (.inr ⟨by omega, by omega⟩)) h5
        have e1 : ((c.toNat : Int) == 32) = false := beq_eq_false_iff_ne.2 h5'.1
        have h9 := h5'.2
        have H5 := Lib.hid h5
        have hdec : (c.toNat : Int) < 9 ∨ (13 < (c.toNat : Int) ∧ decide ((c.toNat : Int) ≤ 13) = false) := by
          rcases h9 with h | h
          · exact .inl h
          · exact .inr ⟨h, decide_eq_false (by omega)⟩
        clear h5 h5' h9
        cases hB : Lib.hasPrefix (s.data.toList.drop j) [47, 47]
        · skip
          have hBf := of_decide_eq_false (by have h := hB; rw [HL.out, prefix_two] at h; exact h)
          have HB1 := Lib.hid hB
          clear hB
          cases hC : Lib.hasPrefix (s.data.toList.drop j) [47, 42]
          · have hCf := of_decide_eq_false (by have h := hC; rw [HL.out, prefix_two] at h; exact h)
            have hT := HT.out
            rw [HL.out, gapLen_none H5.out hBf hCf] at hT
            have HT2 := Lib.hid hT
            have HC1 := Lib.hid hC
            clear hT hC hBf hCf HT
            rcases hdec with h9 | ⟨h9, hdec⟩
            all_goals
              go_wp2_with fail
              refine (rhas_any s j _ _ (by omega) (by omega) (by decide)).mono ?_
              rintro e w' ⟨rfl, rfl⟩
              rw [HB1.out]
              go_wp2_with fail
              refine (rhas_any s j _ _ (by omega) (by omega) (by decide)).mono ?_
              rintro e w' ⟨rfl, rfl⟩
              rw [HC1.out]
              go_wp2_with fail
              go_ret2
              rw [HT2.out.1, HT2.out.2]
              exact ⟨rfl, rfl⟩
          · have hCt := of_decide_eq_true (by have h := hC; rw [HL.out, prefix_two] at h; exact h)
            have hj2 : j + 2 ≤ s.size := by
              have h := hCt.2
              rcases Nat.lt_or_ge (j + 1) s.size with h1 | h1
              · omega
              · rw [List.drop_eq_nil_of_le (by simp; omega)] at h; cases h
            have HC1 := Lib.hid hC
            have HP := Lib.hid (And.intro hBf hCt)
            clear hC hBf hCt
            rcases hdec with h9 | ⟨h9, hdec⟩
            all_goals
              go_wp2_with fail
              refine (rhas_any s j _ _ (by omega) (by omega) (by decide)).mono ?_
              rintro e w' ⟨rfl, rfl⟩
              rw [HB1.out]
              go_wp2_with fail
              refine (rhas_any s j _ _ (by omega) (by omega) (by decide)).mono ?_
              rintro e w' ⟨rfl, rfl⟩
              rw [HC1.out]
              go_wp2_with fail
              go_loopg [6] (s.size + 1 - (j + 2)) (fun g v wr => ∃ i : Nat, w = wr ∧ v = .int .i64 i ∧ j + 2 ≤ i ∧ i ≤ s.size ∧ Hid (endLen (s.data.toList.drop (j + 2)) = (endLen (s.data.toList.drop i)).map (· + (i - (j + 2)))) ∧ g + i = s.size + 1)
              case atStart => exact ⟨j + 2, rfl, rfl, Nat.le_refl _, hj2, Lib.hid (by simp), by omega⟩
              case round =>
                obtain ⟨i, hwi, rfl, hi1, hi2, HI, hgi⟩ := hrel
                subst hwi
                have HGI := Lib.hid hgi
                clear hgi
                by_cases hil : i < s.size
                · have hd := drop_byte s i hil
                  obtain ⟨d, hdd⟩ : ∃ d, s[i] = d := ⟨_, rfl⟩
                  rw [hdd] at hd
                  cases hE : Lib.hasPrefix (s.data.toList.drop i) [42, 47]
                  · have hE2 := of_decide_eq_false (by have h := hE; rw [hd, prefix_two] at h; exact h)
                    have HI2 := Lib.hid (show endLen (s.data.toList.drop (j + 2)) = (endLen (s.data.toList.drop (i + 1))).map (· + (i + 1 - (j + 2))) by
                      rw [HI.out, hd, endLen, if_neg hE2, Option.map_map]
                      congr 1; funext x; simp; omega)
                    have HE := Lib.hid hE
                    clear hd hE hE2 HI
                    go_wp2_with (go_at_call 43; refine (rhas_any s i _ _ (by omega) (by omega) (by decide)).mono ?_; rintro e w' ⟨rfl, rfl⟩; rw [HE.out])
                    go_roundg (gk - 1)
                    case measure => have := HGI.out; omega
                    case rel => exact ⟨i + 1, rfl, by go_num, by omega, by omega, HI2, by have := HGI.out; omega⟩
                  · have hE2 := of_decide_eq_true (by have h := hE; rw [hd, prefix_two] at h; exact h)
                    have hn : endLen (s.data.toList.drop (j + 2)) = some (i - j) := by
                      rw [HI.out, hd, endLen, if_pos hE2]; simp; omega
                    have hij : i + 2 ≤ s.size := by
                      have h := hE2.2
                      rcases Nat.lt_or_ge (i + 1) s.size with h1 | h1
                      · omega
                      · rw [List.drop_eq_nil_of_le (by simp; omega)] at h; cases h
                    have hT := HT.out
                    rw [HL.out, gapLen_comm H5.out HP.out.2 (by rw [← HL.out, List.drop_drop]; exact hn), ← HL.out, List.drop_drop, show j + (i - j + 2) = i + 2 by omega] at hT
                    have HF := Lib.hid (show T = i + 2 + (gapLen (s.data.toList.drop (i + 2))).1 ∧ ok = (gapLen (s.data.toList.drop (i + 2))).2 from ⟨by rw [hT.1]; omega, hT.2⟩)
                    have HE := Lib.hid hE
                    clear hd hE hE2 HI hn hT
                    go_wp2_with (go_at_call 43; refine (rhas_any s i _ _ (by omega) (by omega) (by decide)).mono ?_; rintro e w' ⟨rfl, rfl⟩; rw [HE.out])
                    go_roundg (G - (i + 2 - j))
                    case measure => have := HG.out; omega
                    case rel => exact ⟨i + 2, rfl, by go_num, by omega, HF, by have := HG.out; omega⟩
                · have e0 : s.data.toList.drop i = [] := List.drop_eq_nil_of_le (by simp; omega)
                  have hn : endLen (s.data.toList.drop (j + 2)) = none := by rw [HI.out, e0]; rfl
                  have hT := HT.out
                  rw [HL.out, gapLen_open H5.out HP.out.2 (by rw [← HL.out, List.drop_drop]; exact hn)] at hT
                  have HT2 := Lib.hid hT
                  clear e0 hn hT HI
                  go_wp2_with fail
                  go_ret2
                  rw [HT2.out.1, HT2.out.2]
                  exact ⟨rfl, rfl⟩
        · have hB2 := hB
          rw [HL.out, prefix_two] at hB2
          have hT := HT.out
          rw [HL.out, gapLen_line H5.out (of_decide_eq_true hB2), ← HL.out, List.drop_drop] at hT
          have HT2 := Lib.hid hT
          have HB := Lib.hid hB
          have HP := Lib.hid (of_decide_eq_true hB2)
          clear hT hB hB2 HT
          rcases hdec with h9 | ⟨h9, hdec⟩
          all_goals
            go_wp2_with (go_at_call 43; refine (rhas_any s j _ _ (by omega) (by omega) (by decide)).mono ?_; rintro e w' ⟨rfl, rfl⟩; rw [HB.out])
            go_loopg [1] (s.size - j) (fun g v wr => ∃ i : Nat, w = wr ∧ v = .int .i64 i ∧ j ≤ i ∧ i ≤ s.size ∧ Hid (j + lineLen (s.data.toList.drop j) = i + lineLen (s.data.toList.drop i)) ∧ g + i = s.size)
            case atStart => exact ⟨j, rfl, rfl, Nat.le_refl _, hj, Lib.hid rfl, by omega⟩
            case round =>
              obtain ⟨i, hwi, rfl, hi1, hi2, HI, hgi⟩ := hrel
              subst hwi
              have HGI := Lib.hid hgi
              clear hgi
              have hfin : i = j + lineLen (s.data.toList.drop j) → Hid (T = i + (gapLen (s.data.toList.drop i)).1 ∧ ok = (gapLen (s.data.toList.drop i)).2) := fun e => by
                rw [e]; exact Lib.hid ⟨by rw [HT2.out.1]; omega, HT2.out.2⟩
              have hpos : 0 < lineLen (s.data.toList.drop j) := by rw [HL.out, lineLen_cons, if_neg (by rw [HP.out.1]; decide)]; omega
              by_cases hil : i < s.size
              · have hd := drop_byte s i hil
                obtain ⟨d, hdd⟩ : ∃ d, s[i] = d := ⟨_, rfl⟩
                rw [hdd] at hd
                by_cases h10 : d = 10
                · have hb10 : ((d.toNat : Int) != 10) = false := by rw [h10]; rfl
                  have he : i = j + lineLen (s.data.toList.drop j) := by rw [HI.out, hd, lineLen_cons, if_pos h10]; rfl
                  have HF := hfin he
                  have hji : j < i := by omega
                  clear hd h10 he hfin hpos
                  go_wp2_with fail
                  go_roundg (G - (i - j))
                  case measure => have := HG.out; omega
                  case rel => exact ⟨i, rfl, rfl, hi2, HF, by have := HG.out; omega⟩
                · have hb10 : ((d.toNat : Int) != 10) = true := by rw [bne_iff_ne]; exact fun e => h10 (UInt8.toNat_inj.1 (by show d.toNat = 10; omega))
                  have HI2 := Lib.hid (show j + lineLen (s.data.toList.drop j) = i + 1 + lineLen (s.data.toList.drop (i + 1)) by rw [HI.out, hd, lineLen_cons, if_neg h10]; omega)
                  clear hd h10 hfin hpos HI
                  go_wp2_with fail
                  go_roundg (gk - 1)
                  case measure => have := HGI.out; omega
                  case rel => exact ⟨i + 1, rfl, by go_num, by omega, by omega, HI2, by have := HGI.out; omega⟩
              · have he : i = j + lineLen (s.data.toList.drop j) := by 
                  have e0 : s.data.toList.drop i = [] := List.drop_eq_nil_of_le (by simp; omega)
                  rw [HI.out, e0]; rfl
                have HF := hfin he
                have hji : j < i := by omega
                clear he hfin hpos
                go_wp2_with fail
                go_roundg (G - (i - j))
                case measure => have := HG.out; omega
                case rel => exact ⟨i, rfl, rfl, hi2, HF, by have := HG.out; omega⟩
    · have hT := HT.out
      rw [List.drop_eq_nil_of_le (by simp; omega), show gapLen [] = (0, true) by rw [gapLen]] at hT
      have HT2 := Lib.hid hT
      clear hT HT
      go_wp2_with fail
      go_ret2
      rw [HT2.out.1, HT2.out.2]
      exact ⟨rfl, rfl⟩
end Go.Proofs.YtbdheihjnkfpiaaGreatDoor
