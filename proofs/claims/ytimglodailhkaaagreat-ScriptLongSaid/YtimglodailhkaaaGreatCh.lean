/-
  The program's Check walked.
-/
import Derived.Test.YtimglodailhkaaaGreatCk
namespace Go.Proofs.YtimglodailhkaaaGreat
open Go Go.RowKit
theorem evAt_mk {w : World} {k cn : Int} {a1 a2 a3 : Option Addr} {n1 c1 n2 c2 n3 c3 : Nat} {bs : Bytes} {fs : List (Int × Int)} {ps : List Int} (h1 : bs.length = n1) (h2 : fs.length = n2) (h3 : ps.length = n3)
    (x1 : CellsAt w a1 (byteCs bs)) (x2 : CellsAt w a2 (fateCs fs)) (x3 : CellsAt w a3 (intCs ps)) : EvAt w (.agg #[.int .i64 k, .int .i64 cn, .slice a1 n1 c1, .slice a2 n2 c2, .slice a3 n3 c3]) ⟨k, cn, bs, fs, ps⟩ := by
  subst h1; subst h2; subst h3
  exact ⟨a1, c1, a2, c2, a3, c3, rfl, x1, x2, x3⟩
theorem evAt_none (w : World) : EvAt w (.agg #[.int .i64 0, .int .i64 0, .slice none 0 0, .slice none 0 0, .slice none 0 0]) Ev.none :=
  evAt_mk rfl rfl rfl (.inl rfl) (.inl rfl) (.inl rfl)
theorem small_none : Ev.none.small := ⟨Nat.zero_le _, Nat.zero_le _, Nat.zero_le _⟩
theorem ret_i64 {a b : Int} (h : a = b) : Ending.returned (.int .i64 a) = .returned (.int .i64 b) := by rw [h]
set_option maxRecDepth 100000 in
set_option maxHeartbeats 8000000 in
theorem check_any (v : Value) (e : Ev) (w : World) (hv : EvAt w v e) (he : e.small) :
    Calls Tryz.prog 10 #[v] w fun en w' => en = .returned (.int .i64 (if may31 e = true then 0 else 410)) ∧ Fr No w w' := by
  obtain ⟨a1, c1, a2, c2, a3, c3, rfl, x1, x2, x3⟩ := hv.form
  clear hv
  obtain ⟨R, hR⟩ : ∃ R : Int, R = if may31 e = true then 0 else 410 := ⟨_, rfl⟩
  rw [← hR]
  have HB := Lib.hid (fun h => (show 410 = R by rw [hR, may31_bad (e := e) h]; rfl))
  have HGd := Lib.hid (fun h1 h2 => (show R = if e.fates.all fateOk = true then 0 else 410 by rw [hR, may31_good (e := e) h1 h2]))
  clear hR
  obtain ⟨k, cn, bs, fs, ps⟩ := e
  simp only at x1 x2 x3 HB HGd ⊢
  obtain ⟨he1, he2, he3⟩ := he
  simp only at he1 he2 he3
  obtain ⟨n1, hn1⟩ : ∃ n1, bs.length = n1 := ⟨_, rfl⟩
  obtain ⟨n2, hn2⟩ : ∃ n2, fs.length = n2 := ⟨_, rfl⟩
  obtain ⟨n3, hn3⟩ : ∃ n3, ps.length = n3 := ⟨_, rfl⟩
  rw [hn1] at he1 HB HGd ⊢
  rw [hn2] at he2 HB HGd ⊢
  rw [hn3] at he3 HB HGd ⊢
  have HX := Lib.hid (And.intro (And.intro x1 (And.intro x2 x3)) (And.intro hn1 (And.intro hn2 hn3)))
  clear x1 x2 x3 hn1 hn2 hn3
  by_cases hk : k = 1 ∨ k = 2 ∨ k = 3 ∨ k = 4 ∨ k = 5
  · rcases hk with rfl | rfl | rfl | rfl | rfl
    · go_enter Tryz.func10, Tryz.ntmps10
      go_wp2_with fail
      refine (hasBad_any a2 c2 n2 fs _ HX.out.2.2.1 (by exact HX.out.1.2.1.no (((Fr.refl _ _).alloc _).alloc _)) he2).mono ?_
      rintro e1 w1 ⟨rfl, hf1⟩
      have hfw : Fr No w w1 := (((Fr.refl _ _).alloc _).alloc _).trans_same hf1
      obtain ⟨⟨p0, p1, p2, p3, p4⟩, pl⟩ := cells5 (hf1.at (heap_alloc2_old w _ _) (fun h => h))
      obtain ⟨⟨r0, r1, r2, r3, r4⟩, rl⟩ := cells5 (hf1.at (heap_alloc2_new w _ _) (fun h => h))
      have HF := Lib.hid hfw
      have CS := Lib.hid (same_any (.agg #[.int .i64 0, .int .i64 cn, .slice a1 n1 c1, .slice a2 n2 c2, .slice a3 n3 c3]) _ (⟨0, cn, bs, fs, ps⟩ : Ev) Ev.none w1 (evAt_mk (k := 0) (cn := cn) HX.out.2.1 HX.out.2.2.1 HX.out.2.2.2 (HX.out.1.1.no hfw) (HX.out.1.2.1.no hfw) (HX.out.1.2.2.no hfw)) (evAt_none w1) ⟨by rw [HX.out.2.1]; exact he1, by rw [HX.out.2.2.1]; exact he2, by rw [HX.out.2.2.2]; exact he3⟩ small_none)
      have HS2 : Hid (same31 (⟨0, cn, bs, fs, ps⟩ : Ev) Ev.none = true → ¬ Bad2 1 cn n1 n2 n3) := Lib.hid (fun h => by
        have h1 := same31_iff.1 h
        have h2 := congrArg Ev.conn h1
        have h3 := congrArg (fun e => e.bytes.length) h1
        have h4 := congrArg (fun e => e.fates.length) h1
        have h5 := congrArg (fun e => e.picks.length) h1
        simp only [Ev.none, List.length_nil] at h2 h3 h4 h5
        have g1 := HX.out.2
        unfold Bad2
        omega)
      have HS1 : Hid (same31 (⟨0, cn, bs, fs, ps⟩ : Ev) Ev.none = false → Bad2 1 cn n1 n2 n3) := Lib.hid (fun h => by
        apply Classical.byContradiction
        intro hn
        have g1 := HX.out.2
        have hb : ¬ 0 < n1 → bs = [] := fun h => List.length_eq_zero_iff.1 (by omega)
        have hf : ¬ 0 < n2 → fs = [] := fun h => List.length_eq_zero_iff.1 (by omega)
        have hp : ¬ 0 < n3 → ps = [] := fun h => List.length_eq_zero_iff.1 (by omega)
        unfold Bad2 at hn
        rw [Bool.eq_false_iff] at h
        apply h
        rw [same31_iff]
        have g2 : cn = 0 := by omega
        have g3 := hb (by omega)
        have g4 := hf (by omega)
        have g5 := hp (by omega)
        subst g2
        subst g3
        subst g4
        subst g5
        rfl)
      clear hf1 hfw
      cases hall : fs.all fateOk
      · have HE : Hid (410 = R) := Lib.hid (by
          by_cases h1 : Bad1 1 n1 n2 n3
          · exact HB.out (.inl h1)
          · by_cases h2 : Bad2 1 cn n1 n2 n3
            · exact HB.out (.inr h2)
            · rw [HGd.out h1 h2, hall]; rfl)
        clear hall
        go_wp2_with fail
        go_ret
        exact ⟨ret_i64 HE.out, HF.out⟩
      · have HA := Lib.hid hall
        clear hall
        go_wp2_with fail
        refine CS.out.mono ?_
        rintro e2 w2 ⟨rfl, hf2⟩
        have HF2 := Lib.hid (HF.out.trans_same hf2)
        have P2 := hf2.cell (p := ⟨w.heap.size, 2, none⟩) pl (fun h => h)
        have P3 := hf2.cell (p := ⟨w.heap.size, 3, none⟩) pl (fun h => h)
        have P4 := hf2.cell (p := ⟨w.heap.size, 4, none⟩) pl (fun h => h)
        rw [p2] at P2
        rw [p3] at P3
        rw [p4] at P4
        have pl2 := Nat.lt_of_lt_of_le pl hf2.size
        clear p0 p1 p2 p3 p4 r0 r1 r2 r3 r4 rl pl hf2
        cases hs : same31 (⟨0, cn, bs, fs, ps⟩ : Ev) Ev.none
        · have HE := Lib.hid (HB.out (.inr (HS1.out hs)))
          clear hs
          go_wp2_with fail
          go_ret
          exact ⟨ret_i64 HE.out, HF2.out⟩
        · have HG2 := Lib.hid (HS2.out hs)
          clear hs
          by_cases g1 : (1048576 : Int) < (n1 : Int)
          · have t1 : decide ((1048576 : Int) < (n1 : Int)) = true := decide_eq_true g1
            have u1 : decide (1048576 < n1) = true := decide_eq_true (by omega)
            have HE := Lib.hid (HB.out (.inl (by unfold Bad1; omega)))
            go_wp2_with fail
            go_ret
            exact ⟨ret_i64 HE.out, HF2.out⟩
          · have t1 : decide ((1048576 : Int) < (n1 : Int)) = false := decide_eq_false g1
            have u1 : decide (1048576 < n1) = false := decide_eq_false (by omega)
            obtain ⟨M, hM⟩ : ∃ M : Nat, M = max n2 n3 := ⟨_, rfl⟩
            have hmax : max (n2 : Int) (n3 : Int) = (M : Int) := by omega
            have hmx2 : n2 ≤ M ∧ n3 ≤ M ∧ (M = n2 ∨ M = n3) := by omega
            have HM := Lib.hid hmx2
            have HG1 := Lib.hid g1
            clear hM hmx2 g1
            by_cases g2 : (65536 : Int) < (M : Int)
            · have t2 : decide ((65536 : Int) < (M : Int)) = true := decide_eq_true g2
              have u2 : decide (65536 < M) = true := decide_eq_true (by omega)
              have HE := Lib.hid (HB.out (.inl (by have := HM.out; unfold Bad1; omega)))
              go_wp2_with fail
              go_ret
              exact ⟨ret_i64 HE.out, HF2.out⟩
            · have t2 : decide ((65536 : Int) < (M : Int)) = false := decide_eq_false g2
              have u2 : decide (65536 < M) = false := decide_eq_false (by omega)
              have HE : Hid (0 = R) := Lib.hid (by
                rw [HGd.out (by have := HM.out; have := HG1.out; unfold Bad1; omega) HG2.out, if_pos HA.out])
              go_wp2_with fail
              go_ret
              exact ⟨ret_i64 HE.out, HF2.out⟩
    · go_enter Tryz.func10, Tryz.ntmps10
      go_wp2_with fail
      refine (hasBad_any a2 c2 n2 fs _ HX.out.2.2.1 (by exact HX.out.1.2.1.no (((Fr.refl _ _).alloc _).alloc _)) he2).mono ?_
      rintro e1 w1 ⟨rfl, hf1⟩
      have hfw : Fr No w w1 := (((Fr.refl _ _).alloc _).alloc _).trans_same hf1
      obtain ⟨⟨p0, p1, p2, p3, p4⟩, pl⟩ := cells5 (hf1.at (heap_alloc2_old w _ _) (fun h => h))
      obtain ⟨⟨r0, r1, r2, r3, r4⟩, rl⟩ := cells5 (hf1.at (heap_alloc2_new w _ _) (fun h => h))
      have HF := Lib.hid hfw
      have CS := Lib.hid (same_any (.agg #[.int .i64 0, .int .i64 0, .slice none 0 0, .slice a2 n2 c2, .slice a3 n3 c3]) _ (⟨0, 0, [], fs, ps⟩ : Ev) Ev.none w1 (evAt_mk (k := 0) (cn := 0) rfl HX.out.2.2.1 HX.out.2.2.2 (.inl rfl) (HX.out.1.2.1.no hfw) (HX.out.1.2.2.no hfw)) (evAt_none w1) ⟨Nat.zero_le _, by rw [HX.out.2.2.1]; exact he2, by rw [HX.out.2.2.2]; exact he3⟩ small_none)
      have HS2 : Hid (same31 (⟨0, 0, [], fs, ps⟩ : Ev) Ev.none = true → ¬ Bad2 2 cn n1 n2 n3) := Lib.hid (fun h => by
        have h1 := same31_iff.1 h
        have h2 := congrArg Ev.conn h1
        have h3 := congrArg (fun e => e.bytes.length) h1
        have h4 := congrArg (fun e => e.fates.length) h1
        have h5 := congrArg (fun e => e.picks.length) h1
        simp only [Ev.none, List.length_nil] at h2 h3 h4 h5
        have g1 := HX.out.2
        unfold Bad2
        omega)
      have HS1 : Hid (same31 (⟨0, 0, [], fs, ps⟩ : Ev) Ev.none = false → Bad2 2 cn n1 n2 n3) := Lib.hid (fun h => by
        apply Classical.byContradiction
        intro hn
        have g1 := HX.out.2
        have hb : ¬ 0 < n1 → bs = [] := fun h => List.length_eq_zero_iff.1 (by omega)
        have hf : ¬ 0 < n2 → fs = [] := fun h => List.length_eq_zero_iff.1 (by omega)
        have hp : ¬ 0 < n3 → ps = [] := fun h => List.length_eq_zero_iff.1 (by omega)
        unfold Bad2 at hn
        rw [Bool.eq_false_iff] at h
        apply h
        rw [same31_iff]


        have g4 := hf (by omega)
        have g5 := hp (by omega)


        subst g4
        subst g5
        rfl)
      clear hf1 hfw
      cases hall : fs.all fateOk
      · have HE : Hid (410 = R) := Lib.hid (by
          by_cases h1 : Bad1 2 n1 n2 n3
          · exact HB.out (.inl h1)
          · by_cases h2 : Bad2 2 cn n1 n2 n3
            · exact HB.out (.inr h2)
            · rw [HGd.out h1 h2, hall]; rfl)
        clear hall
        go_wp2_with fail
        go_ret
        exact ⟨ret_i64 HE.out, HF.out⟩
      · have HA := Lib.hid hall
        clear hall
        go_wp2_with fail
        refine CS.out.mono ?_
        rintro e2 w2 ⟨rfl, hf2⟩
        have HF2 := Lib.hid (HF.out.trans_same hf2)
        have P2 := hf2.cell (p := ⟨w.heap.size, 2, none⟩) pl (fun h => h)
        have P3 := hf2.cell (p := ⟨w.heap.size, 3, none⟩) pl (fun h => h)
        have P4 := hf2.cell (p := ⟨w.heap.size, 4, none⟩) pl (fun h => h)
        rw [p2] at P2
        rw [p3] at P3
        rw [p4] at P4
        have pl2 := Nat.lt_of_lt_of_le pl hf2.size
        clear p0 p1 p2 p3 p4 r0 r1 r2 r3 r4 rl pl hf2
        cases hs : same31 (⟨0, 0, [], fs, ps⟩ : Ev) Ev.none
        · have HE := Lib.hid (HB.out (.inr (HS1.out hs)))
          clear hs
          go_wp2_with fail
          go_ret
          exact ⟨ret_i64 HE.out, HF2.out⟩
        · have HG2 := Lib.hid (HS2.out hs)
          clear hs
          by_cases g1 : (1048576 : Int) < (n1 : Int)
          · have t1 : decide ((1048576 : Int) < (n1 : Int)) = true := decide_eq_true g1
            have u1 : decide (1048576 < n1) = true := decide_eq_true (by omega)
            have HE := Lib.hid (HB.out (.inl (by unfold Bad1; omega)))
            go_wp2_with fail
            go_ret
            exact ⟨ret_i64 HE.out, HF2.out⟩
          · have t1 : decide ((1048576 : Int) < (n1 : Int)) = false := decide_eq_false g1
            have u1 : decide (1048576 < n1) = false := decide_eq_false (by omega)
            obtain ⟨M, hM⟩ : ∃ M : Nat, M = max n2 n3 := ⟨_, rfl⟩
            have hmax : max (n2 : Int) (n3 : Int) = (M : Int) := by omega
            have hmx2 : n2 ≤ M ∧ n3 ≤ M ∧ (M = n2 ∨ M = n3) := by omega
            have HM := Lib.hid hmx2
            have HG1 := Lib.hid g1
            clear hM hmx2 g1
            by_cases g2 : (65536 : Int) < (M : Int)
            · have t2 : decide ((65536 : Int) < (M : Int)) = true := decide_eq_true g2
              have u2 : decide (65536 < M) = true := decide_eq_true (by omega)
              have HE := Lib.hid (HB.out (.inl (by have := HM.out; unfold Bad1; omega)))
              go_wp2_with fail
              go_ret
              exact ⟨ret_i64 HE.out, HF2.out⟩
            · have t2 : decide ((65536 : Int) < (M : Int)) = false := decide_eq_false g2
              have u2 : decide (65536 < M) = false := decide_eq_false (by omega)
              have HE : Hid (0 = R) := Lib.hid (by
                rw [HGd.out (by have := HM.out; have := HG1.out; unfold Bad1; omega) HG2.out, if_pos HA.out])
              go_wp2_with fail
              go_ret
              exact ⟨ret_i64 HE.out, HF2.out⟩
    · go_enter Tryz.func10, Tryz.ntmps10
      go_wp2_with fail
      refine (hasBad_any a2 c2 n2 fs _ HX.out.2.2.1 (by exact HX.out.1.2.1.no (((Fr.refl _ _).alloc _).alloc _)) he2).mono ?_
      rintro e1 w1 ⟨rfl, hf1⟩
      have hfw : Fr No w w1 := (((Fr.refl _ _).alloc _).alloc _).trans_same hf1
      obtain ⟨⟨p0, p1, p2, p3, p4⟩, pl⟩ := cells5 (hf1.at (heap_alloc2_old w _ _) (fun h => h))
      obtain ⟨⟨r0, r1, r2, r3, r4⟩, rl⟩ := cells5 (hf1.at (heap_alloc2_new w _ _) (fun h => h))
      have HF := Lib.hid hfw
      have CS := Lib.hid (same_any (.agg #[.int .i64 0, .int .i64 0, .slice a1 n1 c1, .slice a2 n2 c2, .slice a3 n3 c3]) _ (⟨0, 0, bs, fs, ps⟩ : Ev) Ev.none w1 (evAt_mk (k := 0) (cn := 0) HX.out.2.1 HX.out.2.2.1 HX.out.2.2.2 (HX.out.1.1.no hfw) (HX.out.1.2.1.no hfw) (HX.out.1.2.2.no hfw)) (evAt_none w1) ⟨by rw [HX.out.2.1]; exact he1, by rw [HX.out.2.2.1]; exact he2, by rw [HX.out.2.2.2]; exact he3⟩ small_none)
      have HS2 : Hid (same31 (⟨0, 0, bs, fs, ps⟩ : Ev) Ev.none = true → ¬ Bad2 3 cn n1 n2 n3) := Lib.hid (fun h => by
        have h1 := same31_iff.1 h
        have h2 := congrArg Ev.conn h1
        have h3 := congrArg (fun e => e.bytes.length) h1
        have h4 := congrArg (fun e => e.fates.length) h1
        have h5 := congrArg (fun e => e.picks.length) h1
        simp only [Ev.none, List.length_nil] at h2 h3 h4 h5
        have g1 := HX.out.2
        unfold Bad2
        omega)
      have HS1 : Hid (same31 (⟨0, 0, bs, fs, ps⟩ : Ev) Ev.none = false → Bad2 3 cn n1 n2 n3) := Lib.hid (fun h => by
        apply Classical.byContradiction
        intro hn
        have g1 := HX.out.2
        have hb : ¬ 0 < n1 → bs = [] := fun h => List.length_eq_zero_iff.1 (by omega)
        have hf : ¬ 0 < n2 → fs = [] := fun h => List.length_eq_zero_iff.1 (by omega)
        have hp : ¬ 0 < n3 → ps = [] := fun h => List.length_eq_zero_iff.1 (by omega)
        unfold Bad2 at hn
        rw [Bool.eq_false_iff] at h
        apply h
        rw [same31_iff]

        have g3 := hb (by omega)
        have g4 := hf (by omega)
        have g5 := hp (by omega)

        subst g3
        subst g4
        subst g5
        rfl)
      clear hf1 hfw
      cases hall : fs.all fateOk
      · have HE : Hid (410 = R) := Lib.hid (by
          by_cases h1 : Bad1 3 n1 n2 n3
          · exact HB.out (.inl h1)
          · by_cases h2 : Bad2 3 cn n1 n2 n3
            · exact HB.out (.inr h2)
            · rw [HGd.out h1 h2, hall]; rfl)
        clear hall
        go_wp2_with fail
        go_ret
        exact ⟨ret_i64 HE.out, HF.out⟩
      · have HA := Lib.hid hall
        clear hall
        go_wp2_with fail
        refine CS.out.mono ?_
        rintro e2 w2 ⟨rfl, hf2⟩
        have HF2 := Lib.hid (HF.out.trans_same hf2)
        have P2 := hf2.cell (p := ⟨w.heap.size, 2, none⟩) pl (fun h => h)
        have P3 := hf2.cell (p := ⟨w.heap.size, 3, none⟩) pl (fun h => h)
        have P4 := hf2.cell (p := ⟨w.heap.size, 4, none⟩) pl (fun h => h)
        rw [p2] at P2
        rw [p3] at P3
        rw [p4] at P4
        have pl2 := Nat.lt_of_lt_of_le pl hf2.size
        clear p0 p1 p2 p3 p4 r0 r1 r2 r3 r4 rl pl hf2
        cases hs : same31 (⟨0, 0, bs, fs, ps⟩ : Ev) Ev.none
        · have HE := Lib.hid (HB.out (.inr (HS1.out hs)))
          clear hs
          go_wp2_with fail
          go_ret
          exact ⟨ret_i64 HE.out, HF2.out⟩
        · have HG2 := Lib.hid (HS2.out hs)
          clear hs
          by_cases g1 : (1048576 : Int) < (n1 : Int)
          · have t1 : decide ((1048576 : Int) < (n1 : Int)) = true := decide_eq_true g1
            have u1 : decide (1048576 < n1) = true := decide_eq_true (by omega)
            have HE := Lib.hid (HB.out (.inl (by unfold Bad1; omega)))
            go_wp2_with fail
            go_ret
            exact ⟨ret_i64 HE.out, HF2.out⟩
          · have t1 : decide ((1048576 : Int) < (n1 : Int)) = false := decide_eq_false g1
            have u1 : decide (1048576 < n1) = false := decide_eq_false (by omega)
            obtain ⟨M, hM⟩ : ∃ M : Nat, M = max n2 n3 := ⟨_, rfl⟩
            have hmax : max (n2 : Int) (n3 : Int) = (M : Int) := by omega
            have hmx2 : n2 ≤ M ∧ n3 ≤ M ∧ (M = n2 ∨ M = n3) := by omega
            have HM := Lib.hid hmx2
            have HG1 := Lib.hid g1
            clear hM hmx2 g1
            by_cases g2 : (65536 : Int) < (M : Int)
            · have t2 : decide ((65536 : Int) < (M : Int)) = true := decide_eq_true g2
              have u2 : decide (65536 < M) = true := decide_eq_true (by omega)
              have HE := Lib.hid (HB.out (.inl (by have := HM.out; unfold Bad1; omega)))
              go_wp2_with fail
              go_ret
              exact ⟨ret_i64 HE.out, HF2.out⟩
            · have t2 : decide ((65536 : Int) < (M : Int)) = false := decide_eq_false g2
              have u2 : decide (65536 < M) = false := decide_eq_false (by omega)
              have HE : Hid (0 = R) := Lib.hid (by
                rw [HGd.out (by have := HM.out; have := HG1.out; unfold Bad1; omega) HG2.out, if_pos HA.out])
              go_wp2_with fail
              go_ret
              exact ⟨ret_i64 HE.out, HF2.out⟩
    · go_enter Tryz.func10, Tryz.ntmps10
      go_wp2_with fail
      refine (hasBad_any a2 c2 n2 fs _ HX.out.2.2.1 (by exact HX.out.1.2.1.no (((Fr.refl _ _).alloc _).alloc _)) he2).mono ?_
      rintro e1 w1 ⟨rfl, hf1⟩
      have hfw : Fr No w w1 := (((Fr.refl _ _).alloc _).alloc _).trans_same hf1
      obtain ⟨⟨p0, p1, p2, p3, p4⟩, pl⟩ := cells5 (hf1.at (heap_alloc2_old w _ _) (fun h => h))
      obtain ⟨⟨r0, r1, r2, r3, r4⟩, rl⟩ := cells5 (hf1.at (heap_alloc2_new w _ _) (fun h => h))
      have HF := Lib.hid hfw
      have CS := Lib.hid (same_any (.agg #[.int .i64 0, .int .i64 cn, .slice a1 n1 c1, .slice none 0 0, .slice a3 n3 c3]) _ (⟨0, cn, bs, [], ps⟩ : Ev) Ev.none w1 (evAt_mk (k := 0) (cn := cn) HX.out.2.1 rfl HX.out.2.2.2 (HX.out.1.1.no hfw) (.inl rfl) (HX.out.1.2.2.no hfw)) (evAt_none w1) ⟨by rw [HX.out.2.1]; exact he1, Nat.zero_le _, by rw [HX.out.2.2.2]; exact he3⟩ small_none)
      have HS2 : Hid (same31 (⟨0, cn, bs, [], ps⟩ : Ev) Ev.none = true → ¬ Bad2 4 cn n1 n2 n3) := Lib.hid (fun h => by
        have h1 := same31_iff.1 h
        have h2 := congrArg Ev.conn h1
        have h3 := congrArg (fun e => e.bytes.length) h1
        have h4 := congrArg (fun e => e.fates.length) h1
        have h5 := congrArg (fun e => e.picks.length) h1
        simp only [Ev.none, List.length_nil] at h2 h3 h4 h5
        have g1 := HX.out.2
        unfold Bad2
        omega)
      have HS1 : Hid (same31 (⟨0, cn, bs, [], ps⟩ : Ev) Ev.none = false → Bad2 4 cn n1 n2 n3) := Lib.hid (fun h => by
        apply Classical.byContradiction
        intro hn
        have g1 := HX.out.2
        have hb : ¬ 0 < n1 → bs = [] := fun h => List.length_eq_zero_iff.1 (by omega)
        have hf : ¬ 0 < n2 → fs = [] := fun h => List.length_eq_zero_iff.1 (by omega)
        have hp : ¬ 0 < n3 → ps = [] := fun h => List.length_eq_zero_iff.1 (by omega)
        unfold Bad2 at hn
        rw [Bool.eq_false_iff] at h
        apply h
        rw [same31_iff]
        have g2 : cn = 0 := by omega
        have g3 := hb (by omega)

        have g5 := hp (by omega)
        subst g2
        subst g3

        subst g5
        rfl)
      clear hf1 hfw
      cases hall : fs.all fateOk
      · have HE : Hid (410 = R) := Lib.hid (by
          by_cases h1 : Bad1 4 n1 n2 n3
          · exact HB.out (.inl h1)
          · by_cases h2 : Bad2 4 cn n1 n2 n3
            · exact HB.out (.inr h2)
            · rw [HGd.out h1 h2, hall]; rfl)
        clear hall
        go_wp2_with fail
        go_ret
        exact ⟨ret_i64 HE.out, HF.out⟩
      · have HA := Lib.hid hall
        clear hall
        go_wp2_with fail
        refine CS.out.mono ?_
        rintro e2 w2 ⟨rfl, hf2⟩
        have HF2 := Lib.hid (HF.out.trans_same hf2)
        have P2 := hf2.cell (p := ⟨w.heap.size, 2, none⟩) pl (fun h => h)
        have P3 := hf2.cell (p := ⟨w.heap.size, 3, none⟩) pl (fun h => h)
        have P4 := hf2.cell (p := ⟨w.heap.size, 4, none⟩) pl (fun h => h)
        rw [p2] at P2
        rw [p3] at P3
        rw [p4] at P4
        have pl2 := Nat.lt_of_lt_of_le pl hf2.size
        clear p0 p1 p2 p3 p4 r0 r1 r2 r3 r4 rl pl hf2
        cases hs : same31 (⟨0, cn, bs, [], ps⟩ : Ev) Ev.none
        · have HE := Lib.hid (HB.out (.inr (HS1.out hs)))
          clear hs
          go_wp2_with fail
          go_ret
          exact ⟨ret_i64 HE.out, HF2.out⟩
        · have HG2 := Lib.hid (HS2.out hs)
          clear hs
          by_cases g1 : (1048576 : Int) < (n1 : Int)
          · have t1 : decide ((1048576 : Int) < (n1 : Int)) = true := decide_eq_true g1
            have u1 : decide (1048576 < n1) = true := decide_eq_true (by omega)
            have HE := Lib.hid (HB.out (.inl (by unfold Bad1; omega)))
            go_wp2_with fail
            go_ret
            exact ⟨ret_i64 HE.out, HF2.out⟩
          · have t1 : decide ((1048576 : Int) < (n1 : Int)) = false := decide_eq_false g1
            have u1 : decide (1048576 < n1) = false := decide_eq_false (by omega)
            obtain ⟨M, hM⟩ : ∃ M : Nat, M = max n2 n3 := ⟨_, rfl⟩
            have hmax : max (n2 : Int) (n3 : Int) = (M : Int) := by omega
            have hmx2 : n2 ≤ M ∧ n3 ≤ M ∧ (M = n2 ∨ M = n3) := by omega
            have HM := Lib.hid hmx2
            have HG1 := Lib.hid g1
            clear hM hmx2 g1
            by_cases g2 : (65536 : Int) < (M : Int)
            · have t2 : decide ((65536 : Int) < (M : Int)) = true := decide_eq_true g2
              have u2 : decide (65536 < M) = true := decide_eq_true (by omega)
              have HE := Lib.hid (HB.out (.inl (by have := HM.out; unfold Bad1; omega)))
              go_wp2_with fail
              go_ret
              exact ⟨ret_i64 HE.out, HF2.out⟩
            · have t2 : decide ((65536 : Int) < (M : Int)) = false := decide_eq_false g2
              have u2 : decide (65536 < M) = false := decide_eq_false (by omega)
              have HE : Hid (0 = R) := Lib.hid (by
                rw [HGd.out (by have := HM.out; have := HG1.out; unfold Bad1; omega) HG2.out, if_pos HA.out])
              go_wp2_with fail
              go_ret
              exact ⟨ret_i64 HE.out, HF2.out⟩
    · go_enter Tryz.func10, Tryz.ntmps10
      go_wp2_with fail
      refine (hasBad_any a2 c2 n2 fs _ HX.out.2.2.1 (by exact HX.out.1.2.1.no (((Fr.refl _ _).alloc _).alloc _)) he2).mono ?_
      rintro e1 w1 ⟨rfl, hf1⟩
      have hfw : Fr No w w1 := (((Fr.refl _ _).alloc _).alloc _).trans_same hf1
      obtain ⟨⟨p0, p1, p2, p3, p4⟩, pl⟩ := cells5 (hf1.at (heap_alloc2_old w _ _) (fun h => h))
      obtain ⟨⟨r0, r1, r2, r3, r4⟩, rl⟩ := cells5 (hf1.at (heap_alloc2_new w _ _) (fun h => h))
      have HF := Lib.hid hfw
      have CS := Lib.hid (same_any (.agg #[.int .i64 0, .int .i64 cn, .slice a1 n1 c1, .slice a2 n2 c2, .slice none 0 0]) _ (⟨0, cn, bs, fs, []⟩ : Ev) Ev.none w1 (evAt_mk (k := 0) (cn := cn) HX.out.2.1 HX.out.2.2.1 rfl (HX.out.1.1.no hfw) (HX.out.1.2.1.no hfw) (.inl rfl)) (evAt_none w1) ⟨by rw [HX.out.2.1]; exact he1, by rw [HX.out.2.2.1]; exact he2, Nat.zero_le _⟩ small_none)
      have HS2 : Hid (same31 (⟨0, cn, bs, fs, []⟩ : Ev) Ev.none = true → ¬ Bad2 5 cn n1 n2 n3) := Lib.hid (fun h => by
        have h1 := same31_iff.1 h
        have h2 := congrArg Ev.conn h1
        have h3 := congrArg (fun e => e.bytes.length) h1
        have h4 := congrArg (fun e => e.fates.length) h1
        have h5 := congrArg (fun e => e.picks.length) h1
        simp only [Ev.none, List.length_nil] at h2 h3 h4 h5
        have g1 := HX.out.2
        unfold Bad2
        omega)
      have HS1 : Hid (same31 (⟨0, cn, bs, fs, []⟩ : Ev) Ev.none = false → Bad2 5 cn n1 n2 n3) := Lib.hid (fun h => by
        apply Classical.byContradiction
        intro hn
        have g1 := HX.out.2
        have hb : ¬ 0 < n1 → bs = [] := fun h => List.length_eq_zero_iff.1 (by omega)
        have hf : ¬ 0 < n2 → fs = [] := fun h => List.length_eq_zero_iff.1 (by omega)
        have hp : ¬ 0 < n3 → ps = [] := fun h => List.length_eq_zero_iff.1 (by omega)
        unfold Bad2 at hn
        rw [Bool.eq_false_iff] at h
        apply h
        rw [same31_iff]
        have g2 : cn = 0 := by omega
        have g3 := hb (by omega)
        have g4 := hf (by omega)

        subst g2
        subst g3
        subst g4

        rfl)
      clear hf1 hfw
      cases hall : fs.all fateOk
      · have HE : Hid (410 = R) := Lib.hid (by
          by_cases h1 : Bad1 5 n1 n2 n3
          · exact HB.out (.inl h1)
          · by_cases h2 : Bad2 5 cn n1 n2 n3
            · exact HB.out (.inr h2)
            · rw [HGd.out h1 h2, hall]; rfl)
        clear hall
        go_wp2_with fail
        go_ret
        exact ⟨ret_i64 HE.out, HF.out⟩
      · have HA := Lib.hid hall
        clear hall
        go_wp2_with fail
        refine CS.out.mono ?_
        rintro e2 w2 ⟨rfl, hf2⟩
        have HF2 := Lib.hid (HF.out.trans_same hf2)
        have P2 := hf2.cell (p := ⟨w.heap.size, 2, none⟩) pl (fun h => h)
        have P3 := hf2.cell (p := ⟨w.heap.size, 3, none⟩) pl (fun h => h)
        have P4 := hf2.cell (p := ⟨w.heap.size, 4, none⟩) pl (fun h => h)
        rw [p2] at P2
        rw [p3] at P3
        rw [p4] at P4
        have pl2 := Nat.lt_of_lt_of_le pl hf2.size
        clear p0 p1 p2 p3 p4 r0 r1 r2 r3 r4 rl pl hf2
        cases hs : same31 (⟨0, cn, bs, fs, []⟩ : Ev) Ev.none
        · have HE := Lib.hid (HB.out (.inr (HS1.out hs)))
          clear hs
          go_wp2_with fail
          go_ret
          exact ⟨ret_i64 HE.out, HF2.out⟩
        · have HG2 := Lib.hid (HS2.out hs)
          clear hs
          by_cases g1 : (1048576 : Int) < (n1 : Int)
          · have t1 : decide ((1048576 : Int) < (n1 : Int)) = true := decide_eq_true g1
            have u1 : decide (1048576 < n1) = true := decide_eq_true (by omega)
            have HE := Lib.hid (HB.out (.inl (by unfold Bad1; omega)))
            go_wp2_with fail
            go_ret
            exact ⟨ret_i64 HE.out, HF2.out⟩
          · have t1 : decide ((1048576 : Int) < (n1 : Int)) = false := decide_eq_false g1
            have u1 : decide (1048576 < n1) = false := decide_eq_false (by omega)
            obtain ⟨M, hM⟩ : ∃ M : Nat, M = max n2 n3 := ⟨_, rfl⟩
            have hmax : max (n2 : Int) (n3 : Int) = (M : Int) := by omega
            have hmx2 : n2 ≤ M ∧ n3 ≤ M ∧ (M = n2 ∨ M = n3) := by omega
            have HM := Lib.hid hmx2
            have HG1 := Lib.hid g1
            clear hM hmx2 g1
            by_cases g2 : (65536 : Int) < (M : Int)
            · have t2 : decide ((65536 : Int) < (M : Int)) = true := decide_eq_true g2
              have u2 : decide (65536 < M) = true := decide_eq_true (by omega)
              have HE := Lib.hid (HB.out (.inl (by have := HM.out; unfold Bad1; omega)))
              go_wp2_with fail
              go_ret
              exact ⟨ret_i64 HE.out, HF2.out⟩
            · have t2 : decide ((65536 : Int) < (M : Int)) = false := decide_eq_false g2
              have u2 : decide (65536 < M) = false := decide_eq_false (by omega)
              have HE : Hid (0 = R) := Lib.hid (by
                rw [HGd.out (by have := HM.out; have := HG1.out; unfold Bad1; omega) HG2.out, if_pos HA.out])
              go_wp2_with fail
              go_ret
              exact ⟨ret_i64 HE.out, HF2.out⟩
  · have hk2 : k < 1 ∨ 5 < k := by omega
    have HE := Lib.hid (HB.out (.inl (by unfold Bad1; omega)))
    have k1 : (k == 1) = false := beq_eq_false_iff_ne.2 (by omega)
    have k2 : (k == 2) = false := beq_eq_false_iff_ne.2 (by omega)
    have k3 : (k == 3) = false := beq_eq_false_iff_ne.2 (by omega)
    have k4 : (k == 4) = false := beq_eq_false_iff_ne.2 (by omega)
    have k5 : (k == 5) = false := beq_eq_false_iff_ne.2 (by omega)
    clear hk hk2
    go_enter Tryz.func10, Tryz.ntmps10
    go_wp2_with fail
    go_ret
    exact ⟨ret_i64 HE.out, ((Fr.refl _ _).alloc _).alloc _⟩
end Go.Proofs.YtimglodailhkaaaGreat
