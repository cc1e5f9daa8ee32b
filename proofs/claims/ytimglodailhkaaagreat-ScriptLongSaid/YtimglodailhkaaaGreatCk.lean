/-
  Check's predicate, IndexFunc and ContainsFunc at fates walked.
-/
import Derived.Test.YtimglodailhkaaaGreatMa
import Derived.Shelf.SlicesQ.IndexFunc
namespace Go.Proofs.YtimglodailhkaaaGreat
open Go Go.RowKit
set_option maxRecDepth 100000 in
set_option maxHeartbeats 4000000 in
theorem check1_any (y1 y2 : Int) (w : World) :
    Calls Tryz.prog 28 #[.agg #[.int .i64 y1, .int .i64 y2]] w fun e w' => e = .returned (.bool (!fateOk (y1, y2))) ∧ Fr No w w' := by
  cases w1 : y1 != 1
  · have HE : Hid (false = !fateOk (y1, y2)) := Lib.hid (by
      have : y1 = 1 := by simpa using w1
      unfold fateOk
      rw [this]; rfl)
    go_enter Tryz.func28, Tryz.ntmps28
    go_wp2_with fail
    go_ret
    exact ⟨ret_bool HE.out, (Fr.refl _ _).alloc _⟩
  · cases w2 : y1 == 0
    · have v1 : (y1 != 0) = true := by unfold bne; rw [w2]; rfl
      have v2 : ¬ y1 = 0 := by simpa using w2
      have HE : Hid (true = !fateOk (y1, y2)) := Lib.hid (by
        have h1 : (y1 == 1) = false := by simpa using w1
        have h2 : ((y1, y2) == ((0, 0) : Int × Int)) = false := by simp [v2]
        have h : fateOk (y1, y2) = false := by unfold fateOk; rw [h2]; simp only; rw [h1]; rfl
        rw [h]; rfl)
      go_enter Tryz.func28, Tryz.ntmps28
      go_wp2_with fail
      go_ret
      exact ⟨ret_bool HE.out, (Fr.refl _ _).alloc _⟩
    · have v2 : y1 = 0 := by simpa using w2
      subst v2
      cases w3 : y2 == 0
      · have v1 : (y2 != 0) = true := by unfold bne; rw [w3]; rfl
        have v2 : ¬ y2 = 0 := by simpa using w3
        have HE : Hid (true = !fateOk (0, y2)) := Lib.hid (by
          have h2 : (((0 : Int), y2) == ((0, 0) : Int × Int)) = false := by simp [v2]
          have h : fateOk (0, y2) = false := by unfold fateOk; rw [h2]; rfl
          rw [h]; rfl)
        go_enter Tryz.func28, Tryz.ntmps28
        go_wp2_with fail
        go_ret
        exact ⟨ret_bool HE.out, (Fr.refl _ _).alloc _⟩
      · have v2 : y2 = 0 := by simpa using w3
        subst v2
        have HE : Hid (false = !fateOk (0, 0)) := Lib.hid rfl
        go_enter Tryz.func28, Tryz.ntmps28
        go_wp2_with fail
        go_ret
        exact ⟨ret_bool HE.out, (Fr.refl _ _).alloc _⟩
set_option maxHeartbeats 4000000 in
set_option maxRecDepth 100000 in
theorem findBad_any (a : Option Addr) (c n : Nat) (fs : List (Int × Int)) (w : World) (hn : fs.length = n) (hl : CellsAt w a (fateCs fs)) (hbig : n ≤ 1000000000000) :
    Calls Tryz.prog 40 #[.slice a n c, .func (.func 28) #[] #[]] w fun e w' => (∃ i : Int, e = .returned (.int .i64 i) ∧ (decide (0 ≤ i) = !fs.all fateOk)) ∧ Fr No w w' := by
  have HX := Lib.hid (And.intro hl hn)
  clear hl hn
  go_enter Tryz.func40, Tryz.ntmps40
  go_wp2_with fail
  go_loopg [5, 8] n (fun g _ s8 wr => ∃ i : Nat, s8 = .int .i64 i ∧ i ≤ n ∧ Hid (Fr No w wr) ∧ Hid (fs.all fateOk = (fs.drop i).all fateOk) ∧ g + i = n)
  case atStart => exact ⟨0, rfl, by omega, Lib.hid (Fr.refl _ _), Lib.hid rfl, by omega⟩
  case round =>
    obtain ⟨i, rfl, hi, HF, HR, hg⟩ := hrel
    have HG := Lib.hid hg
    clear hg
    by_cases hlt : i < n
    · have hlti : (i : Int) < (n : Int) := by omega
      have l1 : i < fs.length := by rw [HX.out.2]; exact hlt
      obtain ⟨g1, o1, rfl, gl1, s1, s2⟩ := (HX.out.1.no HF.out).fate i l1
      have hall := all_from fateOk fs i l1
      obtain ⟨⟨y1, y2⟩, hy⟩ : ∃ y, fs[i] = y := ⟨_, rfl⟩
      rw [hy] at s1 s2 hall
      simp only at s1 s2
      have HA := Lib.hid (HR.out.trans hall)
      have HC := Lib.hid (fun wx => check1_any y1 y2 wx)
      clear hall hy HR
      cases hq : fateOk (y1, y2) with
      | false =>
        rw [hq] at HC HA
        clear hq
        go_wp2_with fail
        refine (HC.out _).mono ?_
        rintro e1 w1 ⟨rfl, hf1⟩
        go_wp2_with fail
        go_ret
        exact ⟨⟨_, rfl, by rw [HA.out]; simp⟩, HF.out.trans_same hf1⟩
      | true =>
        rw [hq] at HC HA
        clear hq
        go_wp2_with fail
        refine (HC.out _).mono ?_
        rintro e1 w1 ⟨rfl, hf1⟩
        go_wp2_with fail
        go_roundg (gk - 1)
        case measure => have := HG.out; omega
        case rel => exact ⟨i + 1, by go_num, by omega, Lib.hid (HF.out.trans_same hf1), Lib.hid (by rw [HA.out]; rfl), by have := HG.out; omega⟩
    · have hlti : ¬ (i : Int) < (n : Int) := by omega
      go_wp2_with fail
      go_ret
      exact ⟨⟨_, rfl, by rw [HR.out, List.drop_eq_nil_of_le (by rw [HX.out.2]; omega)]; rfl⟩, HF.out⟩
set_option maxHeartbeats 1000000 in
theorem hasBad_any (a : Option Addr) (c n : Nat) (fs : List (Int × Int)) (w : World) (hn : fs.length = n) (hl : CellsAt w a (fateCs fs)) (hbig : n ≤ 1000000000000) :
    Calls Tryz.prog 27 #[.slice a n c, .func (.func 28) #[] #[]] w fun e w' => e = .returned (.bool (!fs.all fateOk)) ∧ Fr No w w' := by
  have HC := Lib.hid (findBad_any a c n fs w hn hl hbig)
  clear hn hl
  go_enter Tryz.func27, Tryz.ntmps27
  go_wp2_with (go_at_call 40; refine HC.out.mono ?_; rintro e w' ⟨⟨i, rfl, hi⟩, hb⟩)
  go_ret
  exact ⟨by rw [← hi]; rfl, hb⟩
end Go.Proofs.YtimglodailhkaaaGreat
