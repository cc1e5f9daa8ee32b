/-
  The lexer's escapes walked, those to the base 16; all of them.
-/
import Derived.Test.YtbdheihjnkfpiaaGreatDoorWg
namespace Go.Proofs.YtbdheihjnkfpiaaGreatDoor
open Go Go.RowKit

theorem digV_hex (c : UInt8) (h : isHex c = true) : digV c < 16 := by
  unfold isHex at h
  simp only [Bool.and_eq_true, Bool.or_eq_true, decide_eq_true_eq, UInt8.le_iff_toNat_le] at h
  have e1 : (48 : UInt8).toNat = 48 := rfl
  have e2 : (57 : UInt8).toNat = 57 := rfl
  have e3 : (97 : UInt8).toNat = 97 := rfl
  have e4 : (102 : UInt8).toNat = 102 := rfl
  have e5 : (65 : UInt8).toNat = 65 := rfl
  have e6 : (70 : UInt8).toNat = 70 := rfl
  rcases h with (h | h) | h
  · rw [digV_ten (by omega) (by omega)]; omega
  · rw [digV_low (by omega)]; omega
  · rw [digV_up (by omega) (by omega)]; omega
theorem hex2_lt (d : Bytes) (h : ∀ c ∈ d, isHex c = true) (hl : d.length ≤ 2) : valOf 16 d < 256 := by
  match d, hl with
  | [], _ => exact (by decide : (0:Nat) < 256)
  | [a], _ =>
    have := digV_hex a (h a (by simp))
    show 16 * 0 + digV a < 256; omega
  | [a, c], _ =>
    have h1 := digV_hex a (h a (by simp))
    have h2 := digV_hex c (h c (by simp))
    show 16 * (16 * 0 + digV a) + digV c < 256; omega
set_option maxRecDepth 100000 in
set_option maxHeartbeats 4000000 in
/-- The loop over digits to the base 16 and what stands behind it. -/
theorem esc_16 (b : Nat) (s : ByteArray) (k : Nat) (c : UInt8) (w : World) (hb : w.heap[b]? = some (.cells #[.string s, .int .i64 k] 78 (0, 0))) (hb16 : 8 ≤ b) (hV : Vars w) (hs : s.size ≤ 2147483640) (hk : k < s.size) (hc : s[k] = c)
    (hp : escPlain c = none) (hx : c = 120 ∨ c = 88) (o : Option (UInt8 × Nat)) (D : Bytes) (hD : D = digs isHex 2 (s.data.toList.drop (k + 1)))
    (ho : o = (if D = [] then none else if 256 ≤ valOf 16 D then none else some (UInt8.ofNat (valOf 16 D), D.length + 1))) :
    Calls Tryz.prog 89 #[.pointer (some ⟨b, 0, none⟩)] w (EscPost b s k o w) := by
  obtain ⟨c0, c1, f0, f1, hlt0⟩ := two_cells hb
  have hlt' : (k : Int) < (s.size : Int) := by omega
  have hne : ((k : Int) == (s.size : Int)) = false := by simp; omega
  have HI := Lib.hid (plain_none hp)
  obtain ⟨v, hv⟩ : ∃ v, v = Lib.indexByte plainB c := ⟨_, rfl⟩
  have hv0 : v < 0 := by rw [hv]; exact HI.out
  have HX := Lib.hid hv.symm
  have HB := Lib.hid hb
  have HO := Lib.hid (And.intro hD ho)
  have HV := Lib.hid hV
  clear hv hb ho hD hV HI hp
  have hx2 : (((c.toNat : Int) == 120) = true ∧ True) ∨ (((c.toNat : Int) == 120) = false ∧ ((c.toNat : Int) == 88) = true) := by
    rcases hx with h | h
    · exact .inl ⟨by rw [h]; rfl, trivial⟩
    · exact .inr ⟨by rw [h]; rfl, by rw [h]; rfl⟩
  clear hx
  rcases hx2 with ⟨hx1, hx2⟩ | ⟨hx1, hx2⟩
  all_goals
    go_enter Tryz.func89, Tryz.ntmps89
    go_upto_block 0 with (first | go_quiet (fail) | (go_at_call 39; refine (indexByte_byte _ _ v _ HX.out).mono ?_; rintro e w' ⟨rfl, hw⟩; rw [hw]))
    go_cut [] (fun wx => wx.heap[b]? = some (.cells #[.string s, .int .i64 ((k + 1 + D.length : Nat))] 78 (0, 0)) ∧ Fr (One b) w wx)
    case rest =>
      obtain ⟨hbj, hfr⟩ := hcut
      clear c0 c1 f0 f1 hlt0
      obtain ⟨c0, c1, f0, f1, hlt0⟩ := two_cells hbj
      have hDl := digs_len isHex 2 (s.data.toList.drop (k + 1))
      rw [← HO.out.1] at hDl
      simp only [List.length_drop, Array.length_toList] at hDl
      obtain ⟨j, hjD⟩ : ∃ j, j = k + 1 + D.length := ⟨_, rfl⟩
      rw [← hjD] at hbj c1
      have hj3 : j ≤ s.size := by have : s.data.size = s.size := rfl; omega
      have HBj := Lib.hid hbj
      have HFr := Lib.hid hfr
      clear hbj hfr hDl
      have htl : (s.extract (k + 1) j).data.toList = D := by
        rw [extract_list, hjD, Nat.add_sub_cancel_left, HO.out.1, digs_take]
      have hFR := HFr.out
      have HJ := Lib.hid (And.intro hjD (And.intro htl (HV.out.kept HFr.out (fun i hi e => by have e' : i = b := e; omega))))
      have hlo : k + 1 ≤ j := by omega
      clear hjD htl hFR
      by_cases hD0 : D = []
      · have hr : s.extract (k + 1) j = ⟨#[]⟩ := by
          have h1 := HJ.out.2.1
          rw [hD0] at h1
          exact bytes_eq (t := s.extract (k + 1) j) h1
        have ho : o = none := by rw [HO.out.2, if_pos hD0]
        have HE := Lib.hid ho
        clear hD0 ho
        go_wp2_with fail
        go_region_with (go_at_call 88; refine (parse_empty _ _ _ ?_).mono ?_; exact HJ.out.2.2.kept_no ((Fr.refl _ _).drewN _); rintro e w2 ⟨hf2, p, rfl⟩)
        all_goals
          go_wp2_with (go_quiet (fail))
          go_ret2
          rw [HE.out]
          exact EscPost.bad (((HFr.out.drewN _).trans_no hf2).drewN _) ((hf2.at (by exact HBj.out) id))
      · obtain ⟨t, hr⟩ : ∃ t, s.extract (k + 1) j = t := ⟨_, rfl⟩
        have htD : t.data.toList = D := by rw [← hr]; exact HJ.out.2.1
        have hts : t.size = D.length := by rw [← htD]; simp
        have htn : t.size ≠ 0 := by rw [hts]; exact fun h => hD0 (List.eq_nil_of_length_eq_zero h)
        have htl : t.size ≤ 2147483648 := by have := digs_len isHex 2 (s.data.toList.drop (k + 1)); rw [← HO.out.1, ← hts] at this; simp at this; omega
        have hta : ∀ c ∈ t.data.toList, isHex c = true := by rw [htD, HO.out.1]; exact digs_all _ _ _
        have HP := fun wx hv => parse_16_8 t wx hv htn htl hta
        rw [htD] at HP
        by_cases hbig : valOf 16 D < 256
        · have ho : o = some (UInt8.ofNat (valOf 16 D), D.length + 1) := by rw [HO.out.2, if_neg hD0, if_neg (by omega)]
          obtain ⟨x, hx⟩ : ∃ x : Int, x = ((valOf 16 D : Nat) : Int) := ⟨_, rfl⟩
          have HC := Lib.hid (fun wx hv => (HP wx hv).mono (R' := fun e w' => Fr No wx w' ∧ e = Ending.returned (.tuple #[.int .u64 x, .nilIface])) fun e w' h => ⟨h.1, by have h2 := h.2; rw [if_pos hbig] at h2; rw [h2, hx]⟩)
          have hx0 : 0 ≤ x := by omega
          have hx1 : x < 256 := by omega
          have HE := Lib.hid (show o = _ ∧ x = ((UInt8.ofNat (valOf 16 D)).toNat : Int) from ⟨ho, by rw [hx, UInt8.toNat_ofNat', Nat.mod_eq_of_lt hbig]⟩)
          clear hD0 ho HP hta htl htn hts htD hbig hx
          go_wp2_with fail
          go_region_with (go_at_call 88; refine (HC.out _ ?_).mono ?_; exact HJ.out.2.2.kept_no ((Fr.refl _ _).drewN _); rintro e w2 ⟨hf2, rfl⟩)
          all_goals
            go_wp2_with (go_quiet (fail))
            go_ret2
            rw [HE.out.1]
            exact EscPost.ok (((HFr.out.drewN _).trans_no hf2).drewN _) (by rw [← HE.out.2]; exact IntWalk_u8 hx0 hx1) ((hf2.at (by exact HBj.out) id).trans (by rw [HJ.out.1, Nat.add_assoc, Nat.add_comm 1]))
        · have ho : o = none := by rw [HO.out.2, if_neg hD0, if_pos (by omega)]
          have HC := Lib.hid (fun wx hv => (HP wx hv).mono (R' := fun e w' => Fr No wx w' ∧ ∃ p, e = Ending.returned (.tuple #[.int .u64 255, .iface 144 p])) fun e w' h => ⟨h.1, by have h2 := h.2; rw [if_neg hbig] at h2; exact h2⟩)
          have HE := Lib.hid ho
          clear hD0 ho HP hta htl htn hts htD hbig
          go_wp2_with fail
          go_region_with (go_at_call 88; refine (HC.out _ ?_).mono ?_; exact HJ.out.2.2.kept_no ((Fr.refl _ _).drewN _); rintro e w2 ⟨hf2, p, rfl⟩)
          all_goals
            go_wp2_with (go_quiet (fail))
            go_ret2
            rw [HE.out]
            exact EscPost.bad (((HFr.out.drewN _).trans_no hf2).drewN _) ((hf2.at (by exact HBj.out) id))
    go_wp2_with fail
    go_loopg [] 2 (fun g wr => ∃ j : Nat, k + 1 ≤ j ∧ j ≤ k + 1 + 2 ∧ j ≤ s.size ∧ wr.heap[b]? = some (.cells #[.string s, .int .i64 j] 78 (0, 0)) ∧ Fr (One b) w wr ∧ k + 1 + D.length = j + (digs isHex (2 - (j - (k + 1))) (s.data.toList.drop j)).length ∧ g + j = k + 1 + 2)
    case atStart => exact ⟨k + 1, by omega, by omega, by omega, set_second (w := w.drewN _) HB.out _, ((Fr.refl _ _).drewN _).setCell ⟨b, 1, none⟩ _ (fun _ => rfl), by rw [HO.out.1]; simp, by omega⟩
    case round =>
      obtain ⟨j, hj1, hj2, hj3, hbj, hfr, hT, hg⟩ := hrel
      clear HB c0 c1 f0 f1 hlt0
      obtain ⟨c0, c1, f0, f1, hlt0⟩ := two_cells hbj
      have SET := Lib.hid (fun (x : Value) (wx : World) (h : wx.heap[b]? = wr.heap[b]?) => set_second (w := wx) (h.trans hbj) x)
      have HBj := Lib.hid hbj
      have HFr := Lib.hid hfr
      have HT := Lib.hid hT
      have HG := Lib.hid hg
      clear hbj hfr hT hg
      by_cases hlt : j < s.size
      · have hlt2 : (j : Int) < (s.size : Int) := by omega
        have hl := drop_byte s j hlt
        by_cases hm : (j : Int) - ((k : Int) + 1) < 2
        · have hlen : 2 - (j - (k + 1)) = (2 - (j + 1 - (k + 1))) + 1 := by omega
          cases hd : isHex s[j]
          · have hT := HT.out
            rw [hl, digs_no hd] at hT
            have hi : Lib.indexByte hexB s[j] < 0 := hex_no hd
            obtain ⟨u, hu⟩ : ∃ u, u = Lib.indexByte hexB s[j] := ⟨_, rfl⟩
            rw [← hu] at hi
            have HU := Lib.hid hu.symm
            have HT2 := Lib.hid hT
            clear hl hlen hd hT hu
            go_wp2_with (first | go_quiet ((go_at_call 39; refine Calls.quiet_of_same (indexByte_byte _ _ u _ HU.out))))
            have hjD : j = k + 1 + D.length := by have := HT2.out; simp only [List.length_nil] at this; omega
            go_meet
            exact ⟨hjD ▸ HBj.out, HFr.out.drewN _⟩
          · have hT := HT.out
            rw [hl, hlen, digs_yes hd] at hT
            have hi : 0 ≤ Lib.indexByte hexB s[j] := hex_yes hd
            obtain ⟨u, hu⟩ : ∃ u, u = Lib.indexByte hexB s[j] := ⟨_, rfl⟩
            rw [← hu] at hi
            have HU := Lib.hid hu.symm
            have HT2 := Lib.hid hT
            clear hl hlen hd hT hu
            go_wp2_with (first | go_quiet ((go_at_call 39; refine Calls.quiet_of_same (indexByte_byte _ _ u _ HU.out))))
            go_roundg (gk - 1)
            case measure => have := HG.out; omega
            case rel =>
              refine ⟨j + 1, by omega, by omega, by omega, ?_, ?_, ?_, by have := HG.out; omega⟩
              · exact SET.out _ _ rfl
              · exact (HFr.out.drewN _).setCell ⟨b, 1, none⟩ _ (fun _ => rfl)
              · have := HT2.out; rw [List.length_cons] at this; omega
        · have hT := HT.out
          have e0 : 2 - (j - (k + 1)) = 0 := by omega
          rw [e0, digs_zero] at hT
          have hd : decide ((j : Int) - ((k : Int) + 1) < 2) = false := decide_eq_false hm
          have HT2 := Lib.hid hT
          clear hl hm hT e0
          go_wp2_with (first | go_quiet (fail))
          have hjD : j = k + 1 + D.length := by have := HT2.out; simp only [List.length_nil] at this; omega
          go_meet
          exact ⟨hjD ▸ HBj.out, HFr.out.drewN _⟩
      · have hT := HT.out
        rw [List.drop_eq_nil_of_le (by simp; omega), digs_nil] at hT
        have hd : decide ((j : Int) < (s.size : Int)) = false := decide_eq_false (by omega)
        have HT2 := Lib.hid hT
        clear hT
        go_wp2_with (first | go_quiet (fail))
        have hjD : j = k + 1 + D.length := by have := HT2.out; simp only [List.length_nil] at this; omega
        go_meet
        exact ⟨hjD ▸ HBj.out, HFr.out.drewN _⟩


theorem escape_any (b : Nat) (s : ByteArray) (k : Nat) (w : World) (hb : w.heap[b]? = some (.cells #[.string s, .int .i64 k] 78 (0, 0))) (hb16 : 8 ≤ b) (hV : Vars w) (hs : s.size ≤ 2147483640) (hk : k ≤ s.size) :
    Calls Tryz.prog 89 #[.pointer (some ⟨b, 0, none⟩)] w (EscPost b s k (escape (s.data.toList.drop k)) w) := by
  by_cases h : k < s.size
  · have hd := drop_byte s k h
    obtain ⟨c, hc⟩ : ∃ c, s[k] = c := ⟨_, rfl⟩
    rw [hc] at hd
    cases hp : escPlain c with
    | some x =>
      rw [hd, escape, hp]
      exact esc_plain b s k c x w hb hs h hc hp
    | none =>
      by_cases hx : c = 120 ∨ c = 88
      · refine esc_16 b s k c w hb hb16 hV hs h hc hp hx _ (digs isHex 2 (s.data.toList.drop (k + 1))) rfl ?_
        rw [hd, escape, hp]
        simp only [if_pos hx]
        show (if digs isHex 2 (s.data.toList.drop (k + 1)) = [] then none else some (UInt8.ofNat (valOf 16 (digs isHex 2 (s.data.toList.drop (k + 1)))), (digs isHex 2 (s.data.toList.drop (k + 1))).length + 1)) = _
        have hlt : valOf 16 (digs isHex 2 (s.data.toList.drop (k + 1))) < 256 := hex2_lt _ (digs_all _ _ _) (by unfold digs; exact Nat.le_trans (List.takeWhile_prefix _).length_le (by rw [List.length_take]; omega))
        rw [if_neg (show ¬ 256 ≤ valOf 16 (digs isHex 2 (s.data.toList.drop (k + 1))) by omega)]
      · refine esc_8 b s k c w hb hb16 hV hs h hc hp ⟨fun e => hx (.inl e), fun e => hx (.inr e)⟩ _ (digs isEight 3 (s.data.toList.drop (k + 0))) rfl ?_
        rw [Nat.add_zero, hd, escape, hp]
        simp only [if_neg hx]
        rfl
  · obtain rfl : k = s.size := by omega
    have : s.data.toList.drop s.size = [] := List.drop_eq_nil_of_le (by simp)
    rw [this]
    exact esc_end b s w hb
end Go.Proofs.YtbdheihjnkfpiaaGreatDoor
