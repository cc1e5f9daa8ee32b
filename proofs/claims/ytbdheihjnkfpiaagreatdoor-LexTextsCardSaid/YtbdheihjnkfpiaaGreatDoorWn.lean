/-
  The lexer's loop walked: all tokens up to the first that can't be read.
-/
import Derived.Test.YtbdheihjnkfpiaaGreatDoorWm
import Derived.Deep.LoopGhost
namespace Go.Proofs.YtbdheihjnkfpiaaGreatDoor
open Go Go.RowKit

theorem gapLen_le : ∀ (n : Nat) (l : Bytes), l.length ≤ n → (gapLen l).1 ≤ l.length
  | 0, l, h => by
    have : l = [] := List.eq_nil_of_length_eq_zero (by omega)
    subst this; rw [gapLen]; exact Nat.le_refl _
  | n + 1, l, h => by
    cases l with
    | nil => rw [gapLen]; exact Nat.le_refl _
    | cons c r =>
      rw [List.length_cons] at h ⊢
      by_cases h1 : cls c = 5
      · rw [gapLen_gap h1]
        have := gapLen_le n r (by omega)
        show (gapLen r).1 + 1 ≤ _
        omega
      · by_cases h2 : c = 47 ∧ r.head? = some 47
        · rw [gapLen, if_neg h1, if_pos h2]
          have := gapLen_le n (r.drop (lineLen r)) (by simp; omega)
          have hl := lineLen_le r
          rw [List.length_drop] at this
          show (gapLen (r.drop (lineLen r))).1 + (lineLen r + 1) ≤ _
          omega
        · by_cases h3 : c = 47 ∧ r.head? = some 42
          · rw [gapLen, if_neg h1, if_neg h2, if_pos h3]
            cases he : endLen (r.drop 1) with
            | none => simp
            | some k =>
              have hk := endLen_le _ _ he
              have := gapLen_le n (r.drop (k + 1)) (by simp; omega)
              rw [List.length_drop] at this hk
              show (gapLen (r.drop (k + 1))).1 + (k + 2) ≤ _
              omega
          · rw [gapLen_none h1 h2 h3]; simp
theorem textRun_len (q : UInt8) : ∀ (m : Nat) (l : Bytes), l.length ≤ m → ∀ t n, textRun q l = some (t, n) → n ≤ l.length
  | 0, l, h, t, n, hr => by
    have : l = [] := List.eq_nil_of_length_eq_zero (by omega)
    subst this; rw [textRun_end] at hr; cases hr
  | m + 1, l, h, t, n, hr => by
    cases l with
    | nil => rw [textRun_end] at hr; cases hr
    | cons c r =>
      rw [List.length_cons] at h ⊢
      by_cases h1 : c = q
      · subst h1; rw [textRun_quote] at hr; cases hr; omega
      · by_cases h2 : c = 10 ∨ c = 0
        · rw [textRun_line h1 h2] at hr; cases hr
        · by_cases h3 : c = 92
          · cases he : escape r with
            | none => rw [textRun_bad h1 h2 h3 he] at hr; cases hr
            | some xk =>
              obtain ⟨x, k⟩ := xk
              rw [textRun_esc h1 h2 h3 he] at hr
              have hk := escape_len he
              cases h4 : textRun q (r.drop k) with
              | none => rw [h4] at hr; cases hr
              | some tn =>
                rw [h4] at hr
                have := textRun_len q m (r.drop k) (by simp; omega) _ _ h4
                rw [List.length_drop] at this
                cases hr
                show tn.2 + (k + 1) ≤ _
                omega
          · rw [textRun_byte h1 h2 h3] at hr
            cases h4 : textRun q r with
            | none => rw [h4] at hr; cases hr
            | some tn =>
              rw [h4] at hr
              have := textRun_len q m r (by omega) _ _ h4
              cases hr
              show tn.2 + 1 ≤ _
              omega
theorem wordLen_le (l : Bytes) : wordLen l ≤ l.length := (List.takeWhile_prefix _).length_le
theorem tokAt_len {l : Bytes} {k x n : Nat} {t : Bytes} (h : tokAt l = .ok (k, t, x, n)) : n ≤ l.length := by
  cases l with
  | nil => rw [tokAt] at h; cases h
  | cons c r =>
    rw [tokAt] at h
    by_cases h1 : cls c = 1
    · rw [if_pos h1] at h; cases h; exact wordLen_le _
    · rw [if_neg h1] at h
      by_cases h2 : cls c = 2
      · rw [if_pos h2] at h
        cases hn : numOf ((c :: r).take (wordLen (c :: r))) with
        | error e => rw [hn] at h; cases h
        | ok y => rw [hn] at h; cases h; exact wordLen_le _
      · rw [if_neg h2] at h
        by_cases h3 : cls c = 3
        · rw [if_pos h3] at h
          cases ht : textRun c r with
          | none => rw [ht] at h; cases h
          | some tn =>
            obtain ⟨t', n'⟩ := tn
            rw [ht] at h; cases h
            have := textRun_len c r.length r (Nat.le_refl _) _ _ ht
            rw [List.length_cons]; omega
        · rw [if_neg h3] at h
          by_cases h4 : cls c = 4
          · rw [if_pos h4] at h; cases h; rw [List.length_cons]; omega
          · rw [if_neg h4] at h; cases h
theorem TokPost.ok {b : Nat} {s : ByteArray} {k kd x n : Nat} {t : Bytes} {w : World} {e : Ending} {w' : World} {r : Except Nat (Nat × Bytes × Nat × Nat)} (h : TokPost b s k r w e w') (hr : r = .ok (kd, t, x, n)) :
    Fr (One b) w w' ∧ e = .returned (tokV ⟨kd, k, t, x⟩) ∧ w'.heap[b]? = some (.cells #[.string s, .int .i64 ((k + n : Nat))] 78 (0, 0)) := by subst hr; exact h
theorem TokPost.bad {b : Nat} {s : ByteArray} {k c : Nat} {w : World} {e : Ending} {w' : World} {r : Except Nat (Nat × Bytes × Nat × Nat)} (h : TokPost b s k r w e w') (hr : r = .error c) :
    Fr (One b) w w' ∧ e = .panicked (refusedAt k c) := by subst hr; exact h
theorem GapPost.ok {b : Nat} {s : ByteArray} {k : Nat} {w : World} {e : Ending} {w' : World} (h : GapPost b s k w e w') (hr : (gapLen (s.data.toList.drop k)).2 = true) :
    Fr (One b) w w' ∧ e = .returned (.tuple #[]) ∧ w'.heap[b]? = some (.cells #[.string s, .int .i64 ((k + (gapLen (s.data.toList.drop k)).1 : Nat))] 78 (0, 0)) := by
  obtain ⟨h1, h2⟩ := h; rw [if_pos hr] at h2; exact ⟨h1, h2⟩
theorem GapPost.bad {b : Nat} {s : ByteArray} {k : Nat} {w : World} {e : Ending} {w' : World} (h : GapPost b s k w e w') (hr : (gapLen (s.data.toList.drop k)).2 = false) :
    Fr (One b) w w' ∧ e = .panicked (refusedAt ((k + (gapLen (s.data.toList.drop k)).1 : Nat)) 240) := by
  obtain ⟨h1, h2⟩ := h; rw [if_neg (by simp [hr])] at h2; exact ⟨h1, h2⟩

/-- What is read from a place on at which a token begins, or the text is at its end. -/
def lexAt (p : Nat) (l : Bytes) : List Tok × Option (Nat × Nat) :=
  if l = [] then ([], none) else
  match tokAt l with
  | .error e => ([], some (p, e))
  | .ok (k, t, x, n) => (⟨k, p, t, x⟩ :: (lexFrom (p + n) (l.drop n)).1, (lexFrom (p + n) (l.drop n)).2)
theorem lexFrom_ok {p : Nat} {l : Bytes} (h : (gapLen l).2 = true) : lexFrom p l = lexAt (p + (gapLen l).1) (l.drop (gapLen l).1) := by
  rw [lexFrom, if_neg (by simp [h])]
  unfold lexAt
  split
  · rfl
  · split <;> rename_i h1 <;> simp only [h1]
theorem lexFrom_bad {p : Nat} {l : Bytes} (h : (gapLen l).2 = false) : lexFrom p l = ([], some (p + (gapLen l).1, 240)) := by
  rw [lexFrom, if_pos h]

/-- step: what has been gathered, and how it ends. -/
def StepPost (b c : Nat) (T : List Tok × Option (Nat × Nat)) (w : World) (e : Ending) (w' : World) : Prop :=
  ∃ v, w'.heap[c]? = some (.cells #[v] 23 (0, 0)) ∧ OwnsT w' w.heap.size v T.1 ∧ Fr (Two b c) w w' ∧
  match T.2 with
  | none => e = .returned (.tuple #[])
  | some (p, er) => e = .panicked (refusedAt p er)
theorem StepPost.stop {b c : Nat} {T : List Tok × Option (Nat × Nat)} {p er : Nat} {v : Value} {w w' : World} (hT : T.2 = some (p, er)) (h1 : w'.heap[c]? = some (.cells #[v] 23 (0, 0))) (h2 : OwnsT w' w.heap.size v T.1) (h3 : Fr (Two b c) w w') :
    StepPost b c T w (.panicked (refusedAt p er)) w' := ⟨v, h1, h2, h3, by rw [hT]⟩
theorem StepPost.done {b c : Nat} {T : List Tok × Option (Nat × Nat)} {v : Value} {w w' : World} (hT : T.2 = none) (h1 : w'.heap[c]? = some (.cells #[v] 23 (0, 0))) (h2 : OwnsT w' w.heap.size v T.1) (h3 : Fr (Two b c) w w') :
    StepPost b c T w (.returned (.tuple #[])) w' := ⟨v, h1, h2, h3, by rw [hT]⟩

/-- Where step stands between two tokens. -/
structure SS (b c : Nat) (s : ByteArray) (w : World) (j : Nat) (ts : List Tok) (W : World) : Prop where
  rd : W.heap[b]? = some (.cells #[.string s, .int .i64 j] 78 (0, 0))
  own : ∃ v, W.heap[c]? = some (.cells #[v] 23 (0, 0)) ∧ OwnsT W w.heap.size v ts
  fr : Fr (Two b c) w W
theorem SS.read {b c : Nat} {s : ByteArray} {w : World} {j i : Nat} {ts : List Tok} {W W' : World} (h : SS b c s w j ts W) (hbc : b ≠ c) (hb : b < w.heap.size) (hf : Fr (One b) W W') (hr : W'.heap[b]? = some (.cells #[.string s, .int .i64 i] 78 (0, 0))) : SS b c s w i ts W' := by
  obtain ⟨v, h1, h2⟩ := h.own
  exact ⟨hr, ⟨v, hf.at h1 (fun e => hbc (by have e2 : c = b := e; exact e2.symm)), h2.kept hf (fun k hk e => by have e2 : k = b := e; omega)⟩, h.fr.trans hf (fun i _ e => .inl e)⟩
theorem SS.lost {b c : Nat} {s : ByteArray} {w : World} {j : Nat} {ts : List Tok} {W W' : World} (h : SS b c s w j ts W) (hbc : b ≠ c) (hb : b < w.heap.size) (hf : Fr (One b) W W') : (∃ v, W'.heap[c]? = some (.cells #[v] 23 (0, 0)) ∧ OwnsT W' w.heap.size v ts) ∧ Fr (Two b c) w W' := by
  obtain ⟨v, h1, h2⟩ := h.own
  exact ⟨⟨v, hf.at h1 (fun e => hbc (by have e2 : c = b := e; exact e2.symm)), h2.kept hf (fun k hk e => by have e2 : k = b := e; omega)⟩, h.fr.trans hf (fun i _ e => .inl e)⟩
theorem SS.drewN {b c : Nat} {s : ByteArray} {w : World} {j : Nat} {ts : List Tok} {W : World} (h : SS b c s w j ts W) (n : Nat) : SS b c s w j ts (W.drewN n) := ⟨h.rd, h.own, h.fr.drewN n⟩
theorem SS.gave {b c : Nat} {s : ByteArray} {w : World} {j : Nat} {ts ts' : List Tok} {W W' : World} {e : Ending} (h : SS b c s w j ts W) (hbc : b ≠ c) (hb : b < w.heap.size) (hg : GivePost c w.heap.size ts' W e W') : e = .returned (.bool true) ∧ SS b c s w j ts' W' := by
  obtain ⟨rfl, v, h1, h2, h3⟩ := hg
  exact ⟨rfl, h3.at h.rd (by rintro (e | e); exact hbc e; omega), ⟨v, h1, h2⟩, h.fr.trans h3 (by rintro i hi (e | e); exact .inr e; omega)⟩

set_option maxRecDepth 100000 in
set_option maxHeartbeats 4000000 in
theorem step_any (g : Nat) (hg : ∀ args w, (callFunc g args).run Tryz.prog w = .ok (.enter g args) w) (b c : Nat) (s : ByteArray) (w : World) (v : Value) (T : List Tok × Option (Nat × Nat))
    (hG : ∀ (t : Tok) (v : Value) (ts : List Tok) (wx : World), wx.heap[c]? = some (.cells #[v] 23 (0, 0)) → OwnsT wx w.heap.size v ts → w.heap.size ≤ wx.heap.size → c < w.heap.size → ts.length ≤ 1000000000 →
      Calls Tryz.prog g #[tokV t, .pointer (some ⟨c, 0, none⟩)] wx (GivePost c w.heap.size (ts ++ [t]) wx))
    (hb : w.heap[b]? = some (.cells #[.string s, .int .i64 (0 : Nat)] 78 (0, 0))) (hc : w.heap[c]? = some (.cells #[v] 23 (0, 0))) (hown : OwnsT w w.heap.size v []) (hbc : b ≠ c) (hb16 : 8 ≤ b) (hc16 : 8 ≤ c) (hV : Vars w) (hs : s.size ≤ 1000000000)
    (hT : T = lexFrom 0 s.data.toList) :
    Calls Tryz.prog 42 #[.pointer (some ⟨b, 0, none⟩), .func (.func g) #[] #[.pointer (some ⟨c, 0, none⟩)]] w (StepPost b c T w) := by
  have hbl := lt_of_block hb
  have hcl := lt_of_block hc
  have S0 : SS b c s w 0 [] w := ⟨hb, ⟨v, hc, hown⟩, Fr.refl _ _⟩
  have HS0 := Lib.hid S0
  have HT0 := Lib.hid hT
  have HG := Lib.hid hG
  have HV := Lib.hid hV
  have hVk : Hid (∀ W, Fr (Two b c) w W → Vars W) := fun W hf => HV.out.kept hf (by rintro k hk (e | e) <;> omega)
  clear hb hc hown hT hG hV S0
  go_enter Tryz.func42, Tryz.ntmps42
  go_wp2_with fail
  refine (gap_any b s 0 _ (by exact HS0.out.rd) (by omega) (by omega)).mono ?_
  intro e w1 h1
  cases hg1 : (gapLen (s.data.toList.drop 0)).2 with
  | false =>
    obtain ⟨hf1, rfl⟩ := h1.bad hg1
    obtain ⟨⟨v1, k1, k2⟩, k3⟩ := HS0.out.lost hbc hbl hf1
    have e1 : T = ([], some (0 + (gapLen (s.data.toList.drop 0)).1, 240)) := by rw [HT0.out, ← lexFrom_bad hg1, List.drop_zero]
    have HF := Lib.hid (StepPost.stop (T := T) (p := 0 + (gapLen (s.data.toList.drop 0)).1) (er := 240) (by rw [e1]) k1 (by rw [e1]; exact k2) k3)
    clear k1 k2 k3 e1 h1 hf1
    exact ⟨rfl, HF.out⟩
  | true =>
    obtain ⟨hf1, rfl, hr1⟩ := h1.ok hg1
    have S1 := HS0.out.read hbc hbl hf1 hr1
    have HS1 := Lib.hid S1
    have HT1 := Lib.hid (show T = lexAt (0 + (gapLen (s.data.toList.drop 0)).1) (s.data.toList.drop (0 + (gapLen (s.data.toList.drop 0)).1)) by
      rw [HT0.out, List.drop_zero] at *; rw [lexFrom_ok hg1, Nat.zero_add])
    clear S1 hf1 hr1 h1
    have hj1 : 0 + (gapLen (s.data.toList.drop 0)).1 ≤ s.size := by
      have := gapLen_le _ (s.data.toList.drop 0) (Nat.le_refl _)
      simp at this ⊢
      have hsz : s.data.size = s.size := rfl
      omega
    obtain ⟨j0, hj0⟩ : ∃ j0, j0 = 0 + (gapLen (s.data.toList.drop 0)).1 := ⟨_, rfl⟩
    rw [← hj0] at HS1 HT1 hj1
    clear hg1 hj0
    go_wp2_with fail
    go_loopg [] (s.size + 1 - j0) (fun gk wr => ∃ (j : Nat) (ts : List Tok), j ≤ s.size ∧ ts.length ≤ j ∧ Hid (SS b c s w j ts wr) ∧ Hid (T = (ts ++ (lexAt j (s.data.toList.drop j)).1, (lexAt j (s.data.toList.drop j)).2)) ∧ gk + j = s.size + 1)
    case atStart => exact ⟨j0, [], hj1, by simp, HS1, Lib.hid (by rw [HT1.out]; simp), by omega⟩
    case round =>
      obtain ⟨j, ts, hj, htl, HS, HT, hgk⟩ := hrel
      clear HS1 HT1 HS0 HT0
      obtain ⟨c0, c1, f0, f1, hlt0⟩ := two_cells HS.out.rd
      by_cases hlt : j < s.size
      · have hlt2 : (j : Int) < (s.size : Int) := by omega
        have hne : s.data.toList.drop j ≠ [] := by rw [drop_byte s j hlt]; simp
        have hGap := Lib.hid hgk
        clear hgk
        go_wp2_with (go_quiet (fail))
        refine (token_any b s j _ (by exact HS.out.rd) hb16 (by exact hVk.out _ (HS.out.fr.drewN _)) (by omega) hlt).mono ?_
        intro e2 w2 h2
        clear c0 c1 f0 f1 hlt0
        cases ht : tokAt (s.data.toList.drop j) with
        | error er =>
          obtain ⟨hf2, rfl⟩ := h2.bad ht
          obtain ⟨⟨v1, k1, k2⟩, k3⟩ := (HS.out.drewN _).lost hbc hbl hf2
          have e1 : lexAt j (s.data.toList.drop j) = ([], some (j, er)) := by unfold lexAt; rw [if_neg hne, ht]
          have e2 : T = (ts, some (j, er)) := by rw [HT.out, e1]; simp
          have HF := Lib.hid (StepPost.stop (T := T) (p := j) (er := er) (by rw [e2]) k1 (by rw [e2]; exact k2) k3)
          clear k1 k2 k3 e1 e2 h2 hf2 ht hne
          exact ⟨rfl, HF.out⟩
        | ok r =>
          obtain ⟨kd, tx, nm, n⟩ := r
          obtain ⟨hf2, rfl, hr2⟩ := h2.ok ht
          have S2 := (HS.out.drewN _).read hbc hbl hf2 hr2
          have hn := tokAt_len ht
          have hn0 := (tokAt_pos ht).1
          rw [List.length_drop] at hn
          have hsz : s.data.toList.length = s.size := by simp
          rw [hsz] at hn
          have e1 : lexAt j (s.data.toList.drop j) = (⟨kd, j, tx, nm⟩ :: (lexFrom (j + n) (s.data.toList.drop (j + n))).1, (lexFrom (j + n) (s.data.toList.drop (j + n))).2) := by
            unfold lexAt; rw [if_neg hne, ht]; dsimp only; rw [List.drop_drop]
          have HT2 := Lib.hid (show T = ((ts ++ [⟨kd, j, tx, nm⟩]) ++ (lexFrom (j + n) (s.data.toList.drop (j + n))).1, (lexFrom (j + n) (s.data.toList.drop (j + n))).2) by rw [HT.out, e1]; simp)
          have HS2 := Lib.hid S2
          obtain ⟨t, htk⟩ : ∃ t : Tok, t = ⟨kd, j, tx, nm⟩ := ⟨_, rfl⟩
          rw [← htk] at HT2 ⊢
          clear S2 hf2 hr2 h2 ht hne e1 hsz HS HT htk
          obtain ⟨v2, q1, q2⟩ := HS2.out.own
          have HQ := Lib.hid (And.intro q1 q2)
          clear q1 q2
          have hsz2 : w.heap.size ≤ w2.heap.size := HS2.out.fr.size
          go_wp2_with fail
          refine (HG.out t v2 ts w2 HQ.out.1 HQ.out.2 hsz2 hcl (by omega)).mono ?_
          intro e3 w3 h3
          obtain ⟨rfl, S3⟩ := HS2.out.gave hbc hbl h3
          have HS3 := Lib.hid S3
          clear S3 h3 HS2 HQ hsz2
          go_wp2_with fail
          refine (gap_any b s (j + n) _ (by exact HS3.out.rd) (by omega) (by omega)).mono ?_
          intro e4 w4 h4
          cases hg4 : (gapLen (s.data.toList.drop (j + n))).2 with
          | false =>
            obtain ⟨hf4, rfl⟩ := h4.bad hg4
            obtain ⟨⟨v1, k1, k2⟩, k3⟩ := HS3.out.lost hbc hbl hf4
            have e2 : T = (ts ++ [t], some (j + n + (gapLen (s.data.toList.drop (j + n))).1, 240)) := by rw [HT2.out, lexFrom_bad hg4]; simp
            have HF := Lib.hid (StepPost.stop (T := T) (p := j + n + (gapLen (s.data.toList.drop (j + n))).1) (er := 240) (by rw [e2]) k1 (by rw [e2]; exact k2) k3)
            clear k1 k2 k3 e2 h4 hf4 hg4
            exact ⟨rfl, HF.out⟩
          | true =>
            obtain ⟨hf4, rfl, hr4⟩ := h4.ok hg4
            have S4 := HS3.out.read hbc hbl hf4 hr4
            have HS4 := Lib.hid S4
            have hl4 := gapLen_le _ (s.data.toList.drop (j + n)) (Nat.le_refl _)
            rw [List.length_drop, Array.length_toList] at hl4
            have hsz : s.data.size = s.size := rfl
            have HT4 := Lib.hid (show T = ((ts ++ [t]) ++ (lexAt (j + n + (gapLen (s.data.toList.drop (j + n))).1) (s.data.toList.drop (j + n + (gapLen (s.data.toList.drop (j + n))).1))).1, (lexAt (j + n + (gapLen (s.data.toList.drop (j + n))).1) (s.data.toList.drop (j + n + (gapLen (s.data.toList.drop (j + n))).1))).2) by
              rw [HT2.out, lexFrom_ok hg4, List.drop_drop])
            obtain ⟨i, hi⟩ : ∃ i, i = j + n + (gapLen (s.data.toList.drop (j + n))).1 := ⟨_, rfl⟩
            rw [← hi] at HS4 HT4
            clear S4 hf4 hr4 h4 hg4 HS3 HT2
            have hi2 : i ≤ s.size ∧ j < i := by omega
            clear hi hl4 hsz
            go_wp2_with fail
            go_roundg (gk - (i - j))
            case measure => have := hGap.out; omega
            case rel => exact ⟨i, ts ++ [t], hi2.1, by simp; omega, HS4, HT4, by have := hGap.out; omega⟩
      · obtain rfl : j = s.size := by omega
        have e1 : lexAt s.size (s.data.toList.drop s.size) = ([], none) := by unfold lexAt; rw [if_pos (List.drop_eq_nil_of_le (by simp))]
        have e2 : T = (ts, none) := by rw [HT.out, e1]; simp
        have HF : Hid (∀ q, StepPost b c T w (.returned (.tuple #[])) (wr.drewN q)) := fun q => by
          obtain ⟨v1, k1, k2⟩ := HS.out.own
          exact StepPost.done (by rw [e2]) k1 (by rw [e2]; exact k2) (HS.out.fr.drewN q)
        clear e1 e2 HT hgk
        have hge : ¬ (s.size : Int) < (s.size : Int) := by omega
        go_wp2_with (go_quiet (fail))
        go_end0
        exact HF.out _
end Go.Proofs.YtbdheihjnkfpiaaGreatDoor
