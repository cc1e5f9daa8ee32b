/-
  The document's Some and Lex walked.
-/
import Derived.Test.YtbdheihjnkfpiaaGreatDoorRk
import Derived.Test.YtbdheihjnkfpiaaGreatDoorWp
namespace Go.Proofs.YtbdheihjnkfpiaaGreatDoor
open Go Go.RowKit
theorem some14_at {s : Bytes} {T : List Tok × Option (Nat × Nat)} (h : ¬ maxText < s.length) (hT : T = lexFrom 0 s) : some14 s = (T.1, T.2.getD (0, 0)) := by
  unfold some14
  rw [if_neg h, ← hT]
  obtain ⟨l, o⟩ := T
  cases o <;> rfl
/-- Some: the tokens, the place, the error. -/
def RSomePost (r : List Tok × Nat × Nat) (w : World) (e : Ending) (w' : World) : Prop :=
  ∃ v, e = .returned (.tuple #[v, .int .i64 r.2.1, .int .i64 r.2.2]) ∧ OwnsT w' w.heap.size v r.1 ∧ Fr No w w'
theorem RTokPost.ok {k kd x n : Nat} {t : Bytes} {w : World} {e : Ending} {w' : World} {r : Except Nat (Nat × Bytes × Nat × Nat)} (h : RTokPost k r w e w') (hr : r = .ok (kd, t, x, n)) :
    Fr No w w' ∧ e = .returned (.tuple #[tokV ⟨kd, k, t, x⟩, .int .i64 ((k + n : Nat)), .int .i64 0]) := by subst hr; exact h
theorem RTokPost.bad {k c : Nat} {w : World} {e : Ending} {w' : World} {r : Except Nat (Nat × Bytes × Nat × Nat)} (h : RTokPost k r w e w') (hr : r = .error c) :
    Fr No w w' ∧ e = .returned (.tuple #[tokV ⟨0, 0, [], 0⟩, .int .i64 k, .int .i64 c]) := by subst hr; exact h
/-- What is still to come at j, where blanks and comments are behind (ok), or a comment does not end. -/
def SLeft (s : ByteArray) (T : List Tok × Option (Nat × Nat)) (ts : List Tok) (j : Nat) (ok : Bool) : Prop :=
  T = if ok then (ts ++ (lexAt j (s.data.toList.drop j)).1, (lexAt j (s.data.toList.drop j)).2) else (ts, some (j, 240))
theorem SLeft.next {s : ByteArray} {T : List Tok × Option (Nat × Nat)} {ts : List Tok} (p : Nat) (h : T = (ts ++ (lexFrom p (s.data.toList.drop p)).1, (lexFrom p (s.data.toList.drop p)).2)) :
    SLeft s T ts (p + (gapLen (s.data.toList.drop p)).1) (gapLen (s.data.toList.drop p)).2 := by
  unfold SLeft
  cases hg : (gapLen (s.data.toList.drop p)).2 with
  | true => rw [h, lexFrom_ok hg, List.drop_drop]; rfl
  | false => rw [h, lexFrom_bad hg]; simp
set_option maxRecDepth 100000 in
set_option maxHeartbeats 8000000 in
theorem rsome_any (s : ByteArray) (w : World) (hs : s.size ≤ 1048576) :
    Calls Tryz.prog 10 #[.string s] w (RSomePost (some14 s.data.toList) w) := by
  obtain ⟨T, hT⟩ : ∃ T, T = lexFrom 0 s.data.toList := ⟨_, rfl⟩
  have hsz : s.data.toList.length = s.size := by simp
  rw [some14_at (s := s.data.toList) (by unfold maxText; omega) hT]
  have h0 : SLeft s T [] (0 + (gapLen (s.data.toList.drop 0)).1) (gapLen (s.data.toList.drop 0)).2 := SLeft.next 0 (by rw [hT]; rfl)
  have hj0 : 0 + (gapLen (s.data.toList.drop 0)).1 ≤ s.size := by
    have := gapLen_le _ (s.data.toList.drop 0) (Nat.le_refl _)
    simp at this ⊢
    have hsz : s.data.size = s.size := rfl
    omega
  have HSK := Lib.hid (fun wx => rskip_any s 0 wx (by omega) (Nat.zero_le _))
  obtain ⟨j0, ej0⟩ : ∃ j0, 0 + (gapLen (s.data.toList.drop 0)).1 = j0 := ⟨_, rfl⟩
  obtain ⟨ok0, eok0⟩ : ∃ ok0, (gapLen (s.data.toList.drop 0)).2 = ok0 := ⟨_, rfl⟩
  rw [ej0, eok0] at h0 HSK
  rw [ej0] at hj0
  have H0 := Lib.hid h0
  clear h0 hT hsz ej0 eok0
  go_enter Tryz.func10, Tryz.ntmps10
  go_wp2_with (go_at_call 23; refine (HSK.out _).mono ?_; rintro e1 w1 ⟨rfl, rfl⟩)
  go_loopg [5, 6, 7] (s.size - j0) (fun g vl va vk wr => ∃ (j : Nat) (ts : List Tok) (a : Option Addr) (n c : Nat) (ok : Bool), vl = .slice a n c ∧ va = .int .i64 j ∧ vk = .bool ok ∧ j ≤ s.size ∧ ts.length ≤ j ∧ Hid (OwnsT wr w.heap.size (.slice a n c) ts) ∧ Hid (Fr No w wr) ∧ Hid (SLeft s T ts j ok) ∧ g + j = s.size)
  case atStart => exact ⟨j0, [], none, 0, 0, ok0, rfl, rfl, rfl, hj0, by simp, Lib.hid (OwnsT.nil _ _), Lib.hid (Fr.refl _ _), H0, by omega⟩
  case round =>
    obtain ⟨j, ts, a, n, c, ok, rfl, rfl, rfl, hj, htl, HO, HF, HS, hgk⟩ := hrel
    have HG := Lib.hid hgk
    clear hgk HSK H0
    cases ok with
    | false =>
      have HQ : Hid (T = (ts, some (j, 240))) := Lib.hid HS.out
      clear HS
      go_wp2_with fail
      go_ret3
      rw [HQ.out]
      exact ⟨_, rfl, HO.out, HF.out⟩
    | true =>
      by_cases hlt : j < s.size
      · have hlt2 : (j : Int) < (s.size : Int) := by omega
        have hne : s.data.toList.drop j ≠ [] := by rw [drop_byte s j hlt]; simp
        have HTk := Lib.hid (fun wx => rtoken_any s j wx (by omega) hlt)
        cases ht : tokAt (s.data.toList.drop j) with
        | error er =>
          have hen : ((er : Int) != 0) = true := by rcases tokAt_err ht with h | h <;> (rw [h]; rfl)
          have HQ : Hid (T = (ts, some (j, er))) := Lib.hid (by
            have e1 : lexAt j (s.data.toList.drop j) = ([], some (j, er)) := by unfold lexAt; rw [if_neg hne, ht]
            have := HS.out; unfold SLeft at this; rw [if_pos rfl, e1] at this; rw [this]; simp)
          have HT2 := Lib.hid (fun wx => (HTk.out wx).mono fun e w' h => h.bad ht)
          clear ht hne HS HTk
          unfold tokV at HT2
          go_wp2_with (go_at_call 24; refine (HT2.out _).mono ?_; rintro e1 w1 ⟨hf1, rfl⟩)
          go_ret3
          rw [HQ.out]
          exact ⟨_, rfl, HO.out.kept ((Fr.refl _ _).trans_same hf1 |>.alloc _) (fun _ _ h => h), (HF.out.trans_same hf1).alloc _⟩
        | ok r =>
          obtain ⟨kd, tx, nm, m⟩ := r
          have hn := tokAt_len ht
          have hn0 := (tokAt_pos ht).1
          have hsz : s.data.toList.length = s.size := by simp
          rw [List.length_drop, hsz] at hn
          obtain ⟨t, htk⟩ : ∃ t : Tok, t = ⟨kd, j, tx, nm⟩ := ⟨_, rfl⟩
          obtain ⟨i, hi⟩ : ∃ i, i = j + m := ⟨_, rfl⟩
          have HT2 := Lib.hid (fun wx => (HTk.out wx).mono (R' := fun e w' => Fr No wx w' ∧ e = .returned (.tuple #[tokV t, .int .i64 (i : Nat), .int .i64 0])) fun e w' h => by have := h.ok ht; rw [htk, hi]; exact this)
          have hnx : SLeft s T (ts ++ [t]) (i + (gapLen (s.data.toList.drop i)).1) (gapLen (s.data.toList.drop i)).2 := SLeft.next i (by
            have e1 : lexAt j (s.data.toList.drop j) = (t :: (lexFrom i (s.data.toList.drop i)).1, (lexFrom i (s.data.toList.drop i)).2) := by
              unfold lexAt; rw [if_neg hne, ht]; dsimp only; rw [List.drop_drop, htk, hi]
            have := HS.out; unfold SLeft at this; rw [if_pos rfl, e1] at this; rw [this]; simp)
          have hil : i ≤ s.size := by omega
          have HSK := Lib.hid (fun wx => rskip_any s i wx (by omega) hil)
          have hl4 := gapLen_le _ (s.data.toList.drop i) (Nat.le_refl _)
          rw [List.length_drop, hsz] at hl4
          have HIJ := Lib.hid (show j < i by omega)
          obtain ⟨i2, ei2⟩ : ∃ i2, i + (gapLen (s.data.toList.drop i)).1 = i2 := ⟨_, rfl⟩
          obtain ⟨ok2, eok2⟩ : ∃ ok2, (gapLen (s.data.toList.drop i)).2 = ok2 := ⟨_, rfl⟩
          rw [ei2, eok2] at hnx HSK
          have HNX := Lib.hid hnx
          have hi2 := Lib.hid (show i ≤ i2 ∧ i2 ≤ s.size by omega)
          have hlen : ts.length ≤ 1000000000 := by omega
          clear ht hne HS HTk hn hn0 hsz htk hi hnx hl4 ei2 eok2
          unfold tokV at HT2
          go_wp2_with (first | (go_at_call 24; refine (HT2.out _).mono ?_; rintro e1 w1 ⟨hf1, rfl⟩; have HF1 := Lib.hid hf1; clear hf1) | (go_at_call 23; refine (HSK.out _).mono ?_; rintro e4 w4 ⟨rfl, rfl⟩) | (at_builtin; go_must (refine wpList_append_tok rfl _ _ rfl w.heap.size _ ts rfl (by exact (HO.out.kept HF1.out (fun _ _ h => h)).kept (((Fr.refl No w1).alloc _).alloc _) (fun _ _ h => h)) _ _ t rfl (by exact heap_alloc2_new w1 _ _) hlen (by have := HF.out.size; have := HF1.out.size; simp; omega) ?_); intro v2 w2 hown2 hf2; obtain ⟨a2, n2, k2, rfl⟩ := hown2.form; have HO2 := Lib.hid hown2; have HF2 := Lib.hid hf2; clear hown2 hf2))
          go_roundg (gk - (i2 - j))
          case measure => have := HG.out; have := HIJ.out; have := hi2.out; omega
          case rel => exact ⟨i2, ts ++ [t], a2, n2, k2, ok2, rfl, rfl, rfl, hi2.out.2, by have := HIJ.out; have := hi2.out; simp; omega, HO2, Lib.hid ((((HF.out.trans_same HF1.out).alloc _).alloc _).trans HF2.out (fun i hi h => by have e : w.heap.size ≤ i := h; omega)), HNX, by have := HG.out; have := HIJ.out; have := hi2.out; omega⟩
      · obtain rfl : j = s.size := by omega
        have HQ : Hid (T = (ts, none)) := Lib.hid (by
          have e1 : lexAt s.size (s.data.toList.drop s.size) = ([], none) := by unfold lexAt; rw [if_pos (List.drop_eq_nil_of_le (by simp))]
          have := HS.out; unfold SLeft at this; rw [if_pos rfl, e1] at this; rw [this]; simp)
        clear HS
        have hge : ¬ (s.size : Int) < (s.size : Int) := by omega
        go_wp2_with fail
        go_ret3
        rw [HQ.out]
        exact ⟨_, rfl, HO.out, HF.out⟩
set_option maxRecDepth 100000 in
set_option maxHeartbeats 8000000 in
theorem rlex_any (s : ByteArray) (w : World) (hs : s.size ≤ 1048576) :
    Calls Tryz.prog 8 #[.string s] w (RSomePost (lex14 s.data.toList) w) := by
  have HS := Lib.hid (fun wx => rsome_any s wx hs)
  obtain ⟨R, hR⟩ : ∃ R, R = some14 s.data.toList := ⟨_, rfl⟩
  have hL : lex14 s.data.toList = if R.2.2 = 0 then (R.1, 0, 0) else ([], R.2.1, R.2.2) := by rw [hR]; rfl
  rw [← hR] at HS
  rw [hL]
  obtain ⟨l, p, er⟩ := R
  clear hR hL
  dsimp only
  by_cases he : er = 0
  · subst he
    rw [if_pos rfl]
    go_enter Tryz.func8, Tryz.ntmps8
    go_wp2_with fail
    refine (HS.out _).mono ?_
    rintro e1 w1 ⟨v, rfl, ho, hf⟩
    obtain ⟨va, vn, vc, rfl⟩ := ho.shape
    have HO := Lib.hid (And.intro ho hf)
    clear ho hf
    go_wp2_with fail
    go_ret3
    exact ⟨_, rfl, HO.out⟩
  · rw [if_neg he]
    have hne : ((er : Int) != 0) = true := by simp; omega
    go_enter Tryz.func8, Tryz.ntmps8
    go_wp2_with fail
    refine (HS.out _).mono ?_
    rintro e1 w1 ⟨v, rfl, ho, hf⟩
    obtain ⟨va, vn, vc, rfl⟩ := ho.shape
    have HO := Lib.hid (And.intro ho hf)
    clear ho hf
    go_wp2_with fail
    go_ret3
    exact ⟨_, rfl, OwnsT.nil _ _, HO.out.2⟩
end Go.Proofs.YtbdheihjnkfpiaaGreatDoor
