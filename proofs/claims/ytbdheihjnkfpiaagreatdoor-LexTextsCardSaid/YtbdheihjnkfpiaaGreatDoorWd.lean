/-
  The lexer's blanks and comments walked: where they end, or that one does not end.
-/
import Derived.Test.YtbdheihjnkfpiaaGreatDoorWc
import Derived.Deep.RegionWith
namespace Go.Proofs.YtbdheihjnkfpiaaGreatDoor
open Go Go.RowKit

/-- gap: the reader stands behind blanks and comments, or it gives up. -/
def GapPost (b : Nat) (s : ByteArray) (k : Nat) (w : World) (e : Ending) (w' : World) : Prop :=
  Fr (One b) w w' ∧
  if (gapLen (s.data.toList.drop k)).2 = true then
    e = .returned (.tuple #[]) ∧ w'.heap[b]? = some (.cells #[.string s, .int .i64 ((k + (gapLen (s.data.toList.drop k)).1 : Nat))] 78 (0, 0))
  else e = .panicked (refusedAt ((k + (gapLen (s.data.toList.drop k)).1 : Nat)) 240)

theorem toList_extract_drop (s : ByteArray) (k : Nat) : (s.extract k s.size).data.toList = s.data.toList.drop k := by
  simp [List.take_of_length_le]

theorem classOf_byte (c : UInt8) (w : World) : Calls Tryz.prog 52 #[.int .u8 c.toNat] w fun e w' => e = .returned (.int .i64 (cls c)) ∧ w = w' :=
  classOf_any _ w (cls_byte c).1 (cls_byte c).2
theorem prefix_two (c : UInt8) (l : Bytes) (x y : UInt8) : Lib.hasPrefix (c :: l) [x, y] = decide (c = x ∧ l.head? = some y) := by
  rw [Bool.eq_iff_iff]
  unfold Lib.hasPrefix
  cases l with
  | nil => simp [List.isPrefixOf]
  | cons d l => simp [List.isPrefixOf]; constructor <;> (rintro ⟨a, b⟩; exact ⟨a.symm, b.symm⟩)
theorem head_byte (r : ByteArray) (c : UInt8) (l : Bytes) (h : r.data.toList = c :: l) (hp : 0 < r.size) : r[0] = c := by
  have h1 : r.data.toList[0]? = some c := by rw [h]; rfl
  have h2 : r.data.toList[0]? = some r[0] := by rw [List.getElem?_eq_getElem (by simpa using hp)]; rfl
  simpa using h2.symm.trans h1
theorem indexByte_line : ∀ (l : Bytes), Lib.indexByte l 10 = if (10 : UInt8) ∈ l then ((lineLen l : Nat) : Int) else -1
  | [] => rfl
  | c :: l => by
    have ih := indexByte_line l
    unfold Lib.indexByte lineLen
    rw [List.takeWhile_cons]
    by_cases h : c = 10
    · subst h; simp
    · have h' : (c == 10) = false := by simpa using h
      have h2 : (c != 10) = true := by simpa using h
      rw [h', h2, ih]
      have hne : (10 : UInt8) ≠ c := fun e => h e.symm
      simp only [Bool.false_eq_true, if_false, List.mem_cons, hne, false_or, if_true, List.length_cons]
      split
      · rw [if_neg (by simp; try omega)]; unfold lineLen; omega
      · simp
theorem lineLen_all : ∀ (l : Bytes), (10 : UInt8) ∉ l → lineLen l = l.length
  | [], _ => rfl
  | c :: l, h => by
    have hc : (c != 10) = true := by simp only [bne_iff_ne]; exact fun e => h (e ▸ List.mem_cons_self)
    have ih := lineLen_all l (fun hm => h (List.mem_cons_of_mem _ hm))
    unfold lineLen at ih ⊢
    rw [List.takeWhile_cons, if_pos hc, List.length_cons, List.length_cons, ih]
theorem lineLen_le (l : Bytes) : lineLen l ≤ l.length := (List.takeWhile_prefix _).length_le
theorem indexByte_at (r : ByteArray) (v : Int) (w : World) (h : Lib.indexByte r.data.toList 10 = v) : Calls Tryz.prog 39 #[.string r, .int .u8 10] w fun e w' => e = .returned (.int .i64 v) ∧ w = w' :=
  (Tryz.strings_IndexByte r 10 w).mono fun _ _ ⟨he, hw⟩ => ⟨by rw [he, ← h]; rfl, hw.symm⟩
theorem gapLen_gap {c : UInt8} {t : Bytes} (h : cls c = 5) : gapLen (c :: t) = ((gapLen t).1 + 1, (gapLen t).2) := by
  rw [gapLen, if_pos h]
theorem gapLen_none {c : UInt8} {t : Bytes} (h : ¬ cls c = 5) (h1 : ¬ (c = 47 ∧ t.head? = some 47)) (h2 : ¬ (c = 47 ∧ t.head? = some 42)) : gapLen (c :: t) = (0, true) := by
  rw [gapLen, if_neg h, if_neg h1, if_neg h2]
theorem gapLen_line {c : UInt8} {t : Bytes} (h : ¬ cls c = 5) (h1 : c = 47 ∧ t.head? = some 47) :
    gapLen (c :: t) = ((gapLen ((c :: t).drop (lineLen (c :: t)))).1 + lineLen (c :: t), (gapLen ((c :: t).drop (lineLen (c :: t)))).2) := by
  have e : lineLen (c :: t) = lineLen t + 1 := by
    unfold lineLen; rw [List.takeWhile_cons, if_pos (by rw [h1.1]; rfl)]; rfl
  rw [e, List.drop_succ_cons, gapLen, if_neg h, if_pos h1]
theorem gapLen_comm {c : UInt8} {t : Bytes} {n : Nat} (h : ¬ cls c = 5) (h1 : c = 47 ∧ t.head? = some 42) (hn : endLen ((c :: t).drop 2) = some n) :
    gapLen (c :: t) = ((gapLen ((c :: t).drop (n + 2))).1 + (n + 2), (gapLen ((c :: t).drop (n + 2))).2) := by
  rw [gapLen, if_neg h, if_neg (by rintro ⟨_, h2⟩; rw [h1.2] at h2; cases h2), if_pos h1]
  rw [List.drop_succ_cons] at hn
  rw [hn]; rfl
theorem gapLen_open {c : UInt8} {t : Bytes} (h : ¬ cls c = 5) (h1 : c = 47 ∧ t.head? = some 42) (hn : endLen ((c :: t).drop 2) = none) : gapLen (c :: t) = (0, false) := by
  rw [gapLen, if_neg h, if_neg (by rintro ⟨_, h2⟩; rw [h1.2] at h2; cases h2), if_pos h1]
  rw [List.drop_succ_cons] at hn
  rw [hn]
theorem hasPrefix_at (r p : ByteArray) (v : Bool) (w : World) (h : Lib.hasPrefix r.data.toList p.data.toList = v) : Calls Tryz.prog 71 #[.string r, .string p] w fun e w' => e = .returned (.bool v) ∧ w = w' :=
  (Tryz.strings_HasPrefix r p w).mono fun _ _ ⟨he, hw⟩ => ⟨by rw [he, h], hw.symm⟩

theorem comment_some {b : Nat} {s r : ByteArray} {at_ : Int} (n : Nat) (w : World) (hb : w.heap[b]? = some (.cells #[.string s, .int .i64 at_] 78 (0, 0))) (hs : r.size ≤ maxLen) (h : endLen (r.data.toList.drop 2) = some n) :
    Calls Tryz.prog 72 #[.pointer (some ⟨b, 0, none⟩), .string r] w fun e w' => e = .returned (.int .i64 ((n + 2 : Nat))) ∧ w = w' :=
  (comment_any b s r at_ w hb hs).mono fun _ _ hp => by unfold CommentPost at hp; rw [h] at hp; exact hp
theorem comment_none {b : Nat} {s r : ByteArray} {at_ : Int} (w : World) (hb : w.heap[b]? = some (.cells #[.string s, .int .i64 at_] 78 (0, 0))) (hs : r.size ≤ maxLen) (h : endLen (r.data.toList.drop 2) = none) :
    Calls Tryz.prog 72 #[.pointer (some ⟨b, 0, none⟩), .string r] w fun e w' => e = .panicked (refusedAt at_ 240) ∧ w = w' :=
  (comment_any b s r at_ w hb hs).mono fun _ _ hp => by unfold CommentPost at hp; rw [h] at hp; exact hp

set_option maxHeartbeats 2000000 in
theorem gap_any (b : Nat) (s : ByteArray) (k : Nat) (w : World) (hb : w.heap[b]? = some (.cells #[.string s, .int .i64 k] 78 (0, 0))) (hs : s.size ≤ 2147483648) (hk : k ≤ s.size) :
    Calls Tryz.prog 59 #[.pointer (some ⟨b, 0, none⟩)] w (GapPost b s k w) := by
  obtain ⟨T, ok, ho⟩ : ∃ T ok, T = k + (gapLen (s.data.toList.drop k)).1 ∧ ok = (gapLen (s.data.toList.drop k)).2 := ⟨_, _, rfl, rfl⟩
  have HP : ∀ e w', (Fr (One b) w w' ∧ if ok = true then e = Ending.returned (.tuple #[]) ∧ w'.heap[b]? = some (.cells #[.string s, .int .i64 (T : Nat)] 78 (0, 0)) else e = .panicked (refusedAt (T : Nat) 240)) → GapPost b s k w e w' := by
    intro e w' h
    unfold GapPost
    rw [← ho.1, ← ho.2]; exact h
  have HPost := Lib.hid HP
  have HO := Lib.hid ho
  have HB := Lib.hid hb
  clear HP ho hb
  go_enter Tryz.func59, Tryz.ntmps59
  go_wp2_with fail
  go_loopg [] (s.size + 1 - k) (fun g wr => ∃ j : Nat, j ≤ s.size ∧ wr.heap[b]? = some (.cells #[.string s, .int .i64 j] 78 (0, 0)) ∧ Fr (One b) w wr ∧ T = j + (gapLen (s.data.toList.drop j)).1 ∧ ok = (gapLen (s.data.toList.drop j)).2 ∧ g = s.size + 1 - j)
  case atStart => exact ⟨k, hk, HB.out, Fr.refl _ _, HO.out.1, HO.out.2, rfl⟩
  case round =>
    obtain ⟨j, hj, hbj, hfr, hT, hok, hg⟩ := hrel
    clear HB HO
    obtain ⟨c0, c1, f0, f1, hlt0⟩ := two_cells hbj
    have HBj := Lib.hid hbj
    have HFr := Lib.hid hfr
    have HT := Lib.hid (And.intro hT hok)
    have HG := Lib.hid hg
    clear hbj hfr hT hok hg
    by_cases hlt : j < s.size
    · have hlt' : (j : Int) < (s.size : Int) := by omega
      obtain ⟨c, hc⟩ : ∃ c, c = s[j] := ⟨_, rfl⟩
      have hl := drop_byte s j hlt
      rw [← hc] at hl
      obtain ⟨r, hr⟩ : ∃ r, s.extract j s.size = r := ⟨_, rfl⟩
      have hrl : r.data.toList = c :: s.data.toList.drop (j + 1) := by rw [← hr, toList_extract_drop, hl]
      have hrs : r.size = s.size - j := by rw [← hr, ByteArray.size_extract]; omega
      have hrp : 0 < r.size := by omega
      have hr0 : r[0] = c := head_byte r c _ hrl hrp
      have HL := Lib.hid hl
      have HRL := Lib.hid hrl
      have HRS := Lib.hid hrs
      clear hl hrl hrs hc
      have CLS := fun (w : World) => classOf_byte c w
      have HCLS := Lib.hid CLS
      clear CLS
      have eLD : s.data.toList.drop j = c :: s.data.toList.drop (j + 1) := HL.out
      have SET := fun (x : Value) (wx : World) (h : wx.heap[b]? = wr.heap[b]?) => set_second (w := wx) (h.trans HBj.out) x
      have HSET := Lib.hid SET
      clear SET
      cases hA : cls c == 5
      · have hA' : ¬ cls c = 5 := by simpa using hA
        cases hB : Lib.hasPrefix r.data.toList [47, 47]
        · cases hC : Lib.hasPrefix r.data.toList [47, 42]
          · have HD := Lib.hid (And.intro hA' eLD)
            clear hA' eLD
            go_wp2_with (first | go_quiet (fail) | (go_at_call 52; refine (HCLS.out _).mono ?_; rintro e w' ⟨rfl, rfl⟩) | (go_at_call 71; refine (hasPrefix_at _ _ _ _ rfl).mono ?_; rintro e w' ⟨rfl, rfl⟩))
            refine bodyPost_ret (results_none rfl _ _ _) rfl ?_
            rw [HRL.out, prefix_two] at hB hC
            have hG : gapLen (s.data.toList.drop j) = (0, true) := by rw [HD.out.2]; exact gapLen_none HD.out.1 (of_decide_eq_false hB) (of_decide_eq_false hC)
            have hT := HT.out
            rw [hG] at hT
            refine HPost.out _ _ ⟨HFr.out.drewN _, ?_⟩
            rw [hT.2, if_pos rfl]
            exact ⟨rfl, by rw [hT.1]; exact HBj.out⟩
          · have HD := Lib.hid (And.intro hA' eLD)
            have hrm : r.size ≤ maxLen := by rw [HRS.out]; unfold maxLen; omega
            have HRM := Lib.hid hrm
            clear hA' eLD hrm
            cases hE : endLen (r.data.toList.drop 2) with
            | none =>
              have HE := Lib.hid hE
              clear hE
              go_wp2_with (first | go_quiet (fail) | (go_at_call 52; refine (HCLS.out _).mono ?_; rintro e w' ⟨rfl, rfl⟩) | (go_at_call 71; refine (hasPrefix_at _ _ _ _ rfl).mono ?_; rintro e w' ⟨rfl, rfl⟩))
              rw [HRL.out, prefix_two] at hC
              have hG : gapLen (s.data.toList.drop j) = (0, false) := by rw [HD.out.2]; exact gapLen_open HD.out.1 (of_decide_eq_true hC) (by rw [← HRL.out]; exact HE.out)
              have HFin : Hid (∀ n, GapPost b s k w (.panicked (refusedAt j 240)) (wr.drewN n)) := fun n => HPost.out _ _ ⟨HFr.out.drewN _, by
                have hT := HT.out
                rw [hG] at hT
                rw [hT.2, hT.1]; simp⟩
              go_region_with (go_at_call 72; refine (comment_none (at_ := j) _ (by exact HBj.out) HRM.out HE.out).mono ?_; rintro e w' ⟨rfl, rfl⟩; refine closed_by (P := Tryz.prog) ⟨rfl, HFin.out _⟩ ?_)
              all_goals exact trivial
            | some n =>
              have HE := Lib.hid hE
              have hn := endLen_le _ _ hE
              have hns : n + 2 ≤ s.size - j := by have := HRS.out; simp at hn; omega
              clear hE hn
              have hC' : Lib.hasPrefix r.data.toList [47, 42] = true := hC
              rw [HRL.out, prefix_two] at hC'
              have hG : gapLen (s.data.toList.drop j) = ((gapLen (s.data.toList.drop (j + (n + 2)))).1 + (n + 2), (gapLen (s.data.toList.drop (j + (n + 2)))).2) := by
                rw [← List.drop_drop, HD.out.2]; exact gapLen_comm HD.out.1 (of_decide_eq_true hC') (by rw [← HRL.out]; exact HE.out)
              have hT := HT.out
              rw [hG] at hT
              have HT2 := Lib.hid hT
              clear hT hG hC'
              have hwr : IntKind.i64.wrap ((j : Int) + ((n : Int) + 2)) = (j : Int) + ((n : Int) + 2) := IntWalk.i64_in _ (by omega)
              go_wp2_with (first | go_quiet (fail) | (go_at_call 52; refine (HCLS.out _).mono ?_; rintro e w' ⟨rfl, rfl⟩) | (go_at_call 71; refine (hasPrefix_at _ _ _ _ rfl).mono ?_; rintro e w' ⟨rfl, rfl⟩))
              go_region_with (go_at_call 72; refine (comment_some (at_ := j) n _ (by exact HBj.out) HRM.out HE.out).mono ?_; rintro e w' ⟨rfl, rfl⟩)
              all_goals
                clear hwr
                go_wp2_with fail
                go_roundg (s.size + 1 - (j + (n + 2)))
                case measure => rw [HG.out]; omega
                case rel =>
                  refine ⟨j + (n + 2), by omega, ?_, ?_, by rw [HT2.out.1]; omega, HT2.out.2, rfl⟩
                  · exact (HSET.out (.int .i64 ((j : Int) + ((n : Int) + 2))) (wr.drewN _) rfl).trans (congrArg (fun x => some (Obj.cells #[Value.string s, Value.int .i64 x] 78 (0, 0))) (by omega))
                  · exact (HFr.out.drewN _).setCell ⟨b, 1, none⟩ _ (fun _ => rfl)
        · have HD := Lib.hid (And.intro hA' eLD)
          clear hA' eLD
          by_cases hN : (10 : UInt8) ∈ r.data.toList
          · have HN := Lib.hid hN
            clear hN
            have hle := lineLen_le r.data.toList
            obtain ⟨n, hn⟩ : ∃ n, n = lineLen r.data.toList := ⟨_, rfl⟩
            rw [← hn] at hle
            have hns : n ≤ s.size - j := by rw [← HRS.out]; simpa using hle
            have HI := Lib.hid (show Lib.indexByte r.data.toList 10 = (n : Int) by rw [indexByte_line, if_pos HN.out, hn])
            have Hn := Lib.hid hn
            clear hn hle
            go_wp2_with (first | go_quiet (fail) | (go_at_call 52; refine (HCLS.out _).mono ?_; rintro e w' ⟨rfl, rfl⟩) | (go_at_call 71; refine (hasPrefix_at _ _ _ _ rfl).mono ?_; rintro e w' ⟨rfl, rfl⟩) | (go_at_call 39; refine (indexByte_at _ _ _ HI.out).mono ?_; rintro e w' ⟨rfl, rfl⟩))
            rw [HRL.out, prefix_two] at hB
            have hG : gapLen (s.data.toList.drop j) = ((gapLen (s.data.toList.drop (j + n))).1 + n, (gapLen (s.data.toList.drop (j + n))).2) := by
              rw [← List.drop_drop, Hn.out, HRL.out, HD.out.2]; exact gapLen_line HD.out.1 (of_decide_eq_true hB)
            have hT := HT.out
            rw [hG] at hT
            go_roundg (s.size + 1 - (j + n))
            case measure =>
              have : 0 < n := by rw [Hn.out, HRL.out]; unfold lineLen; rw [List.takeWhile_cons, if_pos (by rw [(of_decide_eq_true hB).1]; rfl)]; simp
              rw [HG.out]; omega
            case rel =>
              refine ⟨j + n, by omega, ?_, ?_, by rw [hT.1]; omega, hT.2, rfl⟩
              · exact HSET.out _ _ rfl
              · exact (HFr.out.drewN _).setCell ⟨b, 1, none⟩ _ (fun _ => rfl)
          · have HN := Lib.hid hN
            clear hN
            obtain ⟨n, hn⟩ : ∃ n, n = r.size := ⟨_, rfl⟩
            have hns : n ≤ s.size - j := by rw [hn, HRS.out]; omega
            have HI := Lib.hid (show Lib.indexByte r.data.toList 10 = -1 by rw [indexByte_line, if_neg HN.out])
            have Hn := Lib.hid (show n = lineLen r.data.toList by rw [lineLen_all _ HN.out, hn]; simp)
            have hn' : r.size = n := hn.symm
            clear hn
            go_wp2_with (first | go_quiet (fail) | (go_at_call 52; refine (HCLS.out _).mono ?_; rintro e w' ⟨rfl, rfl⟩) | (go_at_call 71; refine (hasPrefix_at _ _ _ _ rfl).mono ?_; rintro e w' ⟨rfl, rfl⟩) | (go_at_call 39; refine (indexByte_at _ _ _ HI.out).mono ?_; rintro e w' ⟨rfl, rfl⟩))
            rw [HRL.out, prefix_two] at hB
            have hG : gapLen (s.data.toList.drop j) = ((gapLen (s.data.toList.drop (j + n))).1 + n, (gapLen (s.data.toList.drop (j + n))).2) := by
              rw [← List.drop_drop, Hn.out, HRL.out, HD.out.2]; exact gapLen_line HD.out.1 (of_decide_eq_true hB)
            have hT := HT.out
            rw [hG] at hT
            go_roundg (s.size + 1 - (j + n))
            case measure => rw [HG.out]; omega
            case rel =>
              refine ⟨j + n, by omega, ?_, ?_, by rw [hT.1]; omega, hT.2, rfl⟩
              · exact HSET.out _ _ rfl
              · exact (HFr.out.drewN _).setCell ⟨b, 1, none⟩ _ (fun _ => rfl)
      · go_wp2_with (first | go_quiet (fail) | (go_at_call 52; refine (HCLS.out _).mono ?_; rintro e w' ⟨rfl, rfl⟩))
        have hG : gapLen (s.data.toList.drop j) = ((gapLen (s.data.toList.drop (j + 1))).1 + 1, (gapLen (s.data.toList.drop (j + 1))).2) := by
          rw [eLD, gapLen, if_pos (by simpa using hA)]
        have hT := HT.out
        rw [hG] at hT
        go_roundg (s.size + 1 - (j + 1))
        case measure => rw [HG.out]; omega
        case rel =>
          refine ⟨j + 1, by omega, ?_, ?_, by rw [hT.1]; omega, hT.2, rfl⟩
          · exact HSET.out _ _ rfl
          · exact (HFr.out.drewN _).setCell ⟨b, 1, none⟩ _ (fun _ => rfl)
    · have hge : ¬ (j : Int) < (s.size : Int) := by omega
      go_wp2_with (go_quiet (fail))
      go_end0
      have hl : s.data.toList.drop j = [] := List.drop_eq_nil_of_le (by simp; omega)
      have hT := HT.out
      rw [hl] at hT
      refine HPost.out _ _ ⟨HFr.out.drewN _, ?_⟩
      rw [hT.2, if_pos (by simp [gapLen])]
      refine ⟨rfl, ?_⟩
      rw [hT.1]; simpa [gapLen] using HBj.out
end Go.Proofs.YtbdheihjnkfpiaaGreatDoor
