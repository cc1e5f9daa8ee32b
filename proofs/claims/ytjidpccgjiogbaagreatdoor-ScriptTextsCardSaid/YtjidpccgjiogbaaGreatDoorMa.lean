/-
  The document's May walked.
-/
import Derived.Test.YtjidpccgjiogbaaGreatDoorSb
namespace Go.Proofs.YtjidpccgjiogbaaGreatDoor
open Go Go.RowKit
def Bad1 (k n1 n2 n3 : Int) : Prop := k < 1 ∨ 5 < k ∨ 1048576 < n1 ∨ 65536 < n2 ∨ 65536 < n3
def Bad2 (k cn n1 n2 n3 : Int) : Prop := (k ≠ 2 ∧ k ≠ 3 ∧ cn ≠ 0) ∨ (k ≠ 2 ∧ 0 < n1) ∨ (k ≠ 4 ∧ 0 < n2) ∨ (k ≠ 5 ∧ 0 < n3)
theorem bool_of (P : Prop) : ∃ z : Bool, (P → true = z) ∧ (¬ P → false = z) := by
  by_cases h : P
  · exact ⟨true, fun _ => rfl, fun g => absurd h g⟩
  · exact ⟨false, fun g => absurd g h, fun _ => rfl⟩
theorem isEmpty_len {α : Type} (l : List α) : l.isEmpty = decide (¬ 0 < (l.length : Int)) := by cases l <;> simp
theorem may31_bad {e : Ev} (h : Bad1 e.kind e.bytes.length e.fates.length e.picks.length ∨ Bad2 e.kind e.conn e.bytes.length e.fates.length e.picks.length) : may31 e = false := by
  rw [Bool.eq_false_iff]
  intro h2
  unfold may31 at h2
  simp only [Bool.and_eq_true, Bool.or_eq_true, beq_iff_eq, decide_eq_true_eq, isEmpty_len] at h2
  unfold Bad1 Bad2 at h
  omega
theorem may31_good {e : Ev} (h1 : ¬ Bad1 e.kind e.bytes.length e.fates.length e.picks.length) (h2 : ¬ Bad2 e.kind e.conn e.bytes.length e.fates.length e.picks.length) : may31 e = e.fates.all fateOk := by
  have h : (decide (1 ≤ e.kind) && decide (e.kind ≤ 5) && decide (e.bytes.length ≤ 1048576) && decide (e.fates.length ≤ 65536) && decide (e.picks.length ≤ 65536) &&
      (e.kind == 2 || e.kind == 3 || e.conn == 0) && (e.kind == 2 || e.bytes.isEmpty) && (e.kind == 4 || e.fates.isEmpty) && (e.kind == 5 || e.picks.isEmpty)) = true := by
    simp only [Bool.and_eq_true, Bool.or_eq_true, beq_iff_eq, decide_eq_true_eq, isEmpty_len]
    unfold Bad1 at h1
    unfold Bad2 at h2
    omega
  unfold may31
  rw [h, Bool.true_and]
theorem all_from (p : Int × Int → Bool) (l : List (Int × Int)) (k : Nat) (h : k < l.length) : (l.drop k).all p = (p l[k] && (l.drop (k + 1)).all p) := by
  rw [List.drop_eq_getElem_cons h, List.all_cons]
set_option maxRecDepth 100000 in
set_option maxHeartbeats 8000000 in
theorem rmay_any (v : Value) (e : Ev) (w : World) (hv : EvAt w v e) (he : e.small) :
    Calls Tryz.prog 16 #[v] w fun en w' => en = .returned (.bool (may31 e)) ∧ Fr No w w' := by
  obtain ⟨a1, c1, a2, c2, a3, c3, rfl, x1, x2, x3⟩ := hv.form
  clear hv
  obtain ⟨R, hR⟩ : ∃ R, R = may31 e := ⟨_, rfl⟩
  rw [← hR]
  have HB := Lib.hid (fun h => hR.trans (may31_bad (e := e) h))
  have HGd := Lib.hid (fun h1 h2 => hR.trans (may31_good (e := e) h1 h2))
  clear hR
  obtain ⟨k, cn, bs, fs, ps⟩ := e
  simp only at x1 x2 x3 HB HGd ⊢
  obtain ⟨he1, he2, he3⟩ := he
  simp only at he1 he2 he3
  obtain ⟨W0, hW0⟩ : ∃ W0, W0 = w.alloc (.cells #[.int .i64 k, .int .i64 cn, .slice a1 bs.length c1, .slice a2 fs.length c2, .slice a3 ps.length c3] 27) := ⟨_, rfl⟩
  have hf0 : Fr No w W0 := by rw [hW0]; exact (Fr.refl _ _).alloc _
  have hB0 := (show W0.heap[w.heap.size]? = some _ by rw [hW0]; exact heap_alloc_new w _)
  obtain ⟨n1, hn1⟩ : ∃ n1, bs.length = n1 := ⟨_, rfl⟩
  obtain ⟨n2, hn2⟩ : ∃ n2, fs.length = n2 := ⟨_, rfl⟩
  obtain ⟨n3, hn3⟩ : ∃ n3, ps.length = n3 := ⟨_, rfl⟩
  rw [hn1] at hB0 he1 hW0 HB HGd ⊢
  rw [hn2] at hB0 he2 hW0 HB HGd ⊢
  rw [hn3] at hB0 he3 hW0 HB HGd ⊢
  obtain ⟨⟨p0, p1, p2, p3, p4⟩, pl⟩ := cells5 hB0
  have HX := Lib.hid (And.intro (x2.no hf0) (And.intro hf0 (And.intro hB0 hn2)))
  obtain ⟨z1, hz1⟩ := bool_of (Bad1 k n1 n2 n3)
  obtain ⟨z2, hz2⟩ := bool_of (Bad2 k cn n1 n2 n3)
  have HZ1 := Lib.hid hz1
  have HZ2 := Lib.hid hz2
  clear x1 x2 x3 hf0 hB0 hn1 hn2 hn3 hz1 hz2
  go_enter Tryz.func16, Tryz.ntmps16
  go_upto_region 2 with fail
  rw [← hW0]
  clear hW0
  go_cut [31] (fun v wx => W0 = wx ∧ v = .bool z1)
  case first =>
    by_cases g1 : k < 1
    · have tg1 : decide (k < 1) = true := decide_eq_true g1
      have Hg1 := Lib.hid g1
      clear g1
      have HE := Lib.hid (HZ1.out.1 (by have := Hg1.out; unfold Bad1; omega))
      go_wp2_with fail
      go_meet
      exact ⟨rfl, congrArg Value.bool HE.out⟩
    · have tg1 : decide (k < 1) = false := decide_eq_false g1
      have Hg1 := Lib.hid g1
      clear g1
      by_cases g2 : (5 : Int) < k
      · have tg2 : decide ((5 : Int) < k) = true := decide_eq_true g2
        have Hg2 := Lib.hid g2
        clear g2
        have HE := Lib.hid (HZ1.out.1 (by have := Hg1.out; have := Hg2.out; unfold Bad1; omega))
        go_wp2_with fail
        go_meet
        exact ⟨rfl, congrArg Value.bool HE.out⟩
      · have tg2 : decide ((5 : Int) < k) = false := decide_eq_false g2
        have Hg2 := Lib.hid g2
        clear g2
        by_cases g3 : (1048576 : Int) < (n1 : Int)
        · have tg3 : decide ((1048576 : Int) < (n1 : Int)) = true := decide_eq_true g3
          have ug3 : decide (1048576 < n1) = true := decide_eq_true (by omega)
          have Hg3 := Lib.hid g3
          clear g3
          have HE := Lib.hid (HZ1.out.1 (by have := Hg1.out; have := Hg2.out; have := Hg3.out; unfold Bad1; omega))
          go_wp2_with fail
          go_meet
          exact ⟨rfl, congrArg Value.bool HE.out⟩
        · have tg3 : decide ((1048576 : Int) < (n1 : Int)) = false := decide_eq_false g3
          have ug3 : decide (1048576 < n1) = false := decide_eq_false (by omega)
          have Hg3 := Lib.hid g3
          clear g3
          by_cases g4 : (65536 : Int) < (n2 : Int)
          · have tg4 : decide ((65536 : Int) < (n2 : Int)) = true := decide_eq_true g4
            have ug4 : decide (65536 < n2) = true := decide_eq_true (by omega)
            have Hg4 := Lib.hid g4
            clear g4
            have HE := Lib.hid (HZ1.out.1 (by have := Hg1.out; have := Hg2.out; have := Hg3.out; have := Hg4.out; unfold Bad1; omega))
            go_wp2_with fail
            go_meet
            exact ⟨rfl, congrArg Value.bool HE.out⟩
          · have tg4 : decide ((65536 : Int) < (n2 : Int)) = false := decide_eq_false g4
            have ug4 : decide (65536 < n2) = false := decide_eq_false (by omega)
            have Hg4 := Lib.hid g4
            clear g4
            by_cases g5 : (65536 : Int) < (n3 : Int)
            · have tg5 : decide ((65536 : Int) < (n3 : Int)) = true := decide_eq_true g5
              have ug5 : decide (65536 < n3) = true := decide_eq_true (by omega)
              have Hg5 := Lib.hid g5
              clear g5
              have HE := Lib.hid (HZ1.out.1 (by have := Hg1.out; have := Hg2.out; have := Hg3.out; have := Hg4.out; have := Hg5.out; unfold Bad1; omega))
              go_wp2_with fail
              go_meet
              exact ⟨rfl, congrArg Value.bool HE.out⟩
            · have tg5 : decide ((65536 : Int) < (n3 : Int)) = false := decide_eq_false g5
              have ug5 : decide (65536 < n3) = false := decide_eq_false (by omega)
              have Hg5 := Lib.hid g5
              clear g5
              have HE := Lib.hid (HZ1.out.2 (by have := Hg1.out; have := Hg2.out; have := Hg3.out; have := Hg4.out; have := Hg5.out; unfold Bad1; omega))
              go_wp2_with fail
              go_meet
              exact ⟨rfl, congrArg Value.bool HE.out⟩
  case rest =>
    obtain ⟨rfl, rfl⟩ := hcut
    cases z1
    · have HK : Hid (¬ Bad1 k n1 n2 n3) := Lib.hid (fun h => by have := HZ1.out.1 h; cases this)
      have hk : k = 1 ∨ k = 2 ∨ k = 3 ∨ k = 4 ∨ k = 5 := by have h := HK.out; unfold Bad1 at h; omega
      go_upto_region 4 with fail
      go_cut [72] (fun v wx => W0 = wx ∧ v = .bool z2)
      case first =>
        clear HB HGd HZ1 HK
        rcases hk with rfl | rfl | rfl | rfl | rfl
        · cases g6 : cn != 0
          · have H6 : Hid (cn = 0) := Lib.hid (by simpa using g6)
            by_cases g7 : (0 : Int) < (n1 : Int)
            · have tg7 : decide ((0 : Int) < (n1 : Int)) = true := decide_eq_true g7
              have ug7 : decide (0 < n1) = true := decide_eq_true (by omega)
              have Hg7 := Lib.hid g7
              clear g7
              have HE := Lib.hid (HZ2.out.1 (by have := H6.out; have := Hg7.out; unfold Bad2; omega))
              go_wp2_with fail
              go_meet
              exact ⟨rfl, congrArg Value.bool HE.out⟩
            · have tg7 : decide ((0 : Int) < (n1 : Int)) = false := decide_eq_false g7
              have ug7 : decide (0 < n1) = false := decide_eq_false (by omega)
              have Hg7 := Lib.hid g7
              clear g7
              by_cases g8 : (0 : Int) < (n2 : Int)
              · have tg8 : decide ((0 : Int) < (n2 : Int)) = true := decide_eq_true g8
                have ug8 : decide (0 < n2) = true := decide_eq_true (by omega)
                have Hg8 := Lib.hid g8
                clear g8
                have HE := Lib.hid (HZ2.out.1 (by have := H6.out; have := Hg7.out; have := Hg8.out; unfold Bad2; omega))
                go_wp2_with fail
                go_meet
                exact ⟨rfl, congrArg Value.bool HE.out⟩
              · have tg8 : decide ((0 : Int) < (n2 : Int)) = false := decide_eq_false g8
                have ug8 : decide (0 < n2) = false := decide_eq_false (by omega)
                have Hg8 := Lib.hid g8
                clear g8
                by_cases g9 : (0 : Int) < (n3 : Int)
                · have tg9 : decide ((0 : Int) < (n3 : Int)) = true := decide_eq_true g9
                  have ug9 : decide (0 < n3) = true := decide_eq_true (by omega)
                  have Hg9 := Lib.hid g9
                  clear g9
                  have HE := Lib.hid (HZ2.out.1 (by have := H6.out; have := Hg7.out; have := Hg8.out; have := Hg9.out; unfold Bad2; omega))
                  go_wp2_with fail
                  go_meet
                  exact ⟨rfl, congrArg Value.bool HE.out⟩
                · have tg9 : decide ((0 : Int) < (n3 : Int)) = false := decide_eq_false g9
                  have ug9 : decide (0 < n3) = false := decide_eq_false (by omega)
                  have Hg9 := Lib.hid g9
                  clear g9
                  have HE := Lib.hid (HZ2.out.2 (by have := H6.out; have := Hg7.out; have := Hg8.out; have := Hg9.out; unfold Bad2; omega))
                  go_wp2_with fail
                  go_meet
                  exact ⟨rfl, congrArg Value.bool HE.out⟩
          · have H6 : Hid (¬ cn = 0) := Lib.hid (by simpa using g6)
            have HE := Lib.hid (HZ2.out.1 (by have := H6.out; unfold Bad2; omega))
            go_wp2_with fail
            go_meet
            exact ⟨rfl, congrArg Value.bool HE.out⟩
        · by_cases g8 : (0 : Int) < (n2 : Int)
          · have tg8 : decide ((0 : Int) < (n2 : Int)) = true := decide_eq_true g8
            have ug8 : decide (0 < n2) = true := decide_eq_true (by omega)
            have Hg8 := Lib.hid g8
            clear g8
            have HE := Lib.hid (HZ2.out.1 (by have := Hg8.out; unfold Bad2; omega))
            go_wp2_with fail
            go_meet
            exact ⟨rfl, congrArg Value.bool HE.out⟩
          · have tg8 : decide ((0 : Int) < (n2 : Int)) = false := decide_eq_false g8
            have ug8 : decide (0 < n2) = false := decide_eq_false (by omega)
            have Hg8 := Lib.hid g8
            clear g8
            by_cases g9 : (0 : Int) < (n3 : Int)
            · have tg9 : decide ((0 : Int) < (n3 : Int)) = true := decide_eq_true g9
              have ug9 : decide (0 < n3) = true := decide_eq_true (by omega)
              have Hg9 := Lib.hid g9
              clear g9
              have HE := Lib.hid (HZ2.out.1 (by have := Hg8.out; have := Hg9.out; unfold Bad2; omega))
              go_wp2_with fail
              go_meet
              exact ⟨rfl, congrArg Value.bool HE.out⟩
            · have tg9 : decide ((0 : Int) < (n3 : Int)) = false := decide_eq_false g9
              have ug9 : decide (0 < n3) = false := decide_eq_false (by omega)
              have Hg9 := Lib.hid g9
              clear g9
              have HE := Lib.hid (HZ2.out.2 (by have := Hg8.out; have := Hg9.out; unfold Bad2; omega))
              go_wp2_with fail
              go_meet
              exact ⟨rfl, congrArg Value.bool HE.out⟩
        · by_cases g7 : (0 : Int) < (n1 : Int)
          · have tg7 : decide ((0 : Int) < (n1 : Int)) = true := decide_eq_true g7
            have ug7 : decide (0 < n1) = true := decide_eq_true (by omega)
            have Hg7 := Lib.hid g7
            clear g7
            have HE := Lib.hid (HZ2.out.1 (by have := Hg7.out; unfold Bad2; omega))
            go_wp2_with fail
            go_meet
            exact ⟨rfl, congrArg Value.bool HE.out⟩
          · have tg7 : decide ((0 : Int) < (n1 : Int)) = false := decide_eq_false g7
            have ug7 : decide (0 < n1) = false := decide_eq_false (by omega)
            have Hg7 := Lib.hid g7
            clear g7
            by_cases g8 : (0 : Int) < (n2 : Int)
            · have tg8 : decide ((0 : Int) < (n2 : Int)) = true := decide_eq_true g8
              have ug8 : decide (0 < n2) = true := decide_eq_true (by omega)
              have Hg8 := Lib.hid g8
              clear g8
              have HE := Lib.hid (HZ2.out.1 (by have := Hg7.out; have := Hg8.out; unfold Bad2; omega))
              go_wp2_with fail
              go_meet
              exact ⟨rfl, congrArg Value.bool HE.out⟩
            · have tg8 : decide ((0 : Int) < (n2 : Int)) = false := decide_eq_false g8
              have ug8 : decide (0 < n2) = false := decide_eq_false (by omega)
              have Hg8 := Lib.hid g8
              clear g8
              by_cases g9 : (0 : Int) < (n3 : Int)
              · have tg9 : decide ((0 : Int) < (n3 : Int)) = true := decide_eq_true g9
                have ug9 : decide (0 < n3) = true := decide_eq_true (by omega)
                have Hg9 := Lib.hid g9
                clear g9
                have HE := Lib.hid (HZ2.out.1 (by have := Hg7.out; have := Hg8.out; have := Hg9.out; unfold Bad2; omega))
                go_wp2_with fail
                go_meet
                exact ⟨rfl, congrArg Value.bool HE.out⟩
              · have tg9 : decide ((0 : Int) < (n3 : Int)) = false := decide_eq_false g9
                have ug9 : decide (0 < n3) = false := decide_eq_false (by omega)
                have Hg9 := Lib.hid g9
                clear g9
                have HE := Lib.hid (HZ2.out.2 (by have := Hg7.out; have := Hg8.out; have := Hg9.out; unfold Bad2; omega))
                go_wp2_with fail
                go_meet
                exact ⟨rfl, congrArg Value.bool HE.out⟩
        · cases g6 : cn != 0
          · have H6 : Hid (cn = 0) := Lib.hid (by simpa using g6)
            by_cases g7 : (0 : Int) < (n1 : Int)
            · have tg7 : decide ((0 : Int) < (n1 : Int)) = true := decide_eq_true g7
              have ug7 : decide (0 < n1) = true := decide_eq_true (by omega)
              have Hg7 := Lib.hid g7
              clear g7
              have HE := Lib.hid (HZ2.out.1 (by have := H6.out; have := Hg7.out; unfold Bad2; omega))
              go_wp2_with fail
              go_meet
              exact ⟨rfl, congrArg Value.bool HE.out⟩
            · have tg7 : decide ((0 : Int) < (n1 : Int)) = false := decide_eq_false g7
              have ug7 : decide (0 < n1) = false := decide_eq_false (by omega)
              have Hg7 := Lib.hid g7
              clear g7
              by_cases g9 : (0 : Int) < (n3 : Int)
              · have tg9 : decide ((0 : Int) < (n3 : Int)) = true := decide_eq_true g9
                have ug9 : decide (0 < n3) = true := decide_eq_true (by omega)
                have Hg9 := Lib.hid g9
                clear g9
                have HE := Lib.hid (HZ2.out.1 (by have := H6.out; have := Hg7.out; have := Hg9.out; unfold Bad2; omega))
                go_wp2_with fail
                go_meet
                exact ⟨rfl, congrArg Value.bool HE.out⟩
              · have tg9 : decide ((0 : Int) < (n3 : Int)) = false := decide_eq_false g9
                have ug9 : decide (0 < n3) = false := decide_eq_false (by omega)
                have Hg9 := Lib.hid g9
                clear g9
                have HE := Lib.hid (HZ2.out.2 (by have := H6.out; have := Hg7.out; have := Hg9.out; unfold Bad2; omega))
                go_wp2_with fail
                go_meet
                exact ⟨rfl, congrArg Value.bool HE.out⟩
          · have H6 : Hid (¬ cn = 0) := Lib.hid (by simpa using g6)
            have HE := Lib.hid (HZ2.out.1 (by have := H6.out; unfold Bad2; omega))
            go_wp2_with fail
            go_meet
            exact ⟨rfl, congrArg Value.bool HE.out⟩
        · cases g6 : cn != 0
          · have H6 : Hid (cn = 0) := Lib.hid (by simpa using g6)
            by_cases g7 : (0 : Int) < (n1 : Int)
            · have tg7 : decide ((0 : Int) < (n1 : Int)) = true := decide_eq_true g7
              have ug7 : decide (0 < n1) = true := decide_eq_true (by omega)
              have Hg7 := Lib.hid g7
              clear g7
              have HE := Lib.hid (HZ2.out.1 (by have := H6.out; have := Hg7.out; unfold Bad2; omega))
              go_wp2_with fail
              go_meet
              exact ⟨rfl, congrArg Value.bool HE.out⟩
            · have tg7 : decide ((0 : Int) < (n1 : Int)) = false := decide_eq_false g7
              have ug7 : decide (0 < n1) = false := decide_eq_false (by omega)
              have Hg7 := Lib.hid g7
              clear g7
              by_cases g8 : (0 : Int) < (n2 : Int)
              · have tg8 : decide ((0 : Int) < (n2 : Int)) = true := decide_eq_true g8
                have ug8 : decide (0 < n2) = true := decide_eq_true (by omega)
                have Hg8 := Lib.hid g8
                clear g8
                have HE := Lib.hid (HZ2.out.1 (by have := H6.out; have := Hg7.out; have := Hg8.out; unfold Bad2; omega))
                go_wp2_with fail
                go_meet
                exact ⟨rfl, congrArg Value.bool HE.out⟩
              · have tg8 : decide ((0 : Int) < (n2 : Int)) = false := decide_eq_false g8
                have ug8 : decide (0 < n2) = false := decide_eq_false (by omega)
                have Hg8 := Lib.hid g8
                clear g8
                have HE := Lib.hid (HZ2.out.2 (by have := H6.out; have := Hg7.out; have := Hg8.out; unfold Bad2; omega))
                go_wp2_with fail
                go_meet
                exact ⟨rfl, congrArg Value.bool HE.out⟩
          · have H6 : Hid (¬ cn = 0) := Lib.hid (by simpa using g6)
            have HE := Lib.hid (HZ2.out.1 (by have := H6.out; unfold Bad2; omega))
            go_wp2_with fail
            go_meet
            exact ⟨rfl, congrArg Value.bool HE.out⟩
      case rest =>
        obtain ⟨rfl, rfl⟩ := hcut
        clear hk
        cases z2
        · have HR2 : Hid (R = fs.all fateOk) := Lib.hid (HGd.out HK.out (fun h => by have := HZ2.out.1 h; cases this))
          clear HB HGd HZ1 HZ2 HK
          clear p0 p1 p2 p4 pl
          go_wp2_with fail
          go_loopg [4] n2 (fun g v wr => ∃ i : Nat, v = .int .i64 i ∧ i ≤ n2 ∧ Hid (Fr No W0 wr) ∧ Hid (R = (fs.drop i).all fateOk) ∧ g + i = n2)
          case atStart => exact ⟨0, rfl, by omega, Lib.hid (Fr.refl _ _), Lib.hid (by rw [HR2.out]; rfl), by omega⟩
          case round =>
            obtain ⟨i, rfl, hi, HF, HR, hg⟩ := hrel
            have HG := Lib.hid hg
            clear hg HR2 p3
            have hb := HF.out.at HX.out.2.2.1 (fun h => h)
            obtain ⟨⟨_, _, _, p3, _⟩, pl⟩ := cells5 hb
            clear hb
            by_cases hlt : i < n2
            · have hlti : (i : Int) < (n2 : Int) := by omega
              have l1 : i < fs.length := by rw [HX.out.2.2.2]; exact hlt
              obtain ⟨g1, o1, rfl, gl1, s1, s2⟩ := (HX.out.1.no HF.out).fate i l1
              have hall := all_from fateOk fs i l1
              obtain ⟨⟨y1, y2⟩, hy⟩ : ∃ y, fs[i] = y := ⟨_, rfl⟩
              rw [hy] at s1 s2 hall
              simp only at s1 s2
              have HA := Lib.hid (HR.out.trans hall)
              clear hall hy HR
              cases w1 : y1 != 1
              · have HR2 : Hid (R = (fs.drop (i + 1)).all fateOk) := Lib.hid (by
                  rw [HA.out]
                  have : y1 = 1 := by simpa using w1
                  unfold fateOk
                  rw [this]; rfl)
                go_wp2_with fail
                go_roundg (gk - 1)
                case measure => have := HG.out; omega
                case rel => exact ⟨i + 1, by go_num, by omega, Lib.hid (HF.out.alloc _), HR2, by have := HG.out; omega⟩
              · cases w2 : y1 == 0
                · have v1 : (y1 != 0) = true := by unfold bne; rw [w2]; rfl
                  have v2 : ¬ y1 = 0 := by simpa using w2
                  have HE : Hid (false = R) := Lib.hid (by
                    rw [HA.out]
                    have h1 : (y1 == 1) = false := by simpa using w1
                    have h2 : ((y1, y2) == ((0, 0) : Int × Int)) = false := by simp [v2]
                    have h : fateOk (y1, y2) = false := by unfold fateOk; rw [h2]; simp only; rw [h1]; rfl
                    rw [h]; rfl)
                  go_wp2_with fail
                  go_ret
                  exact ⟨ret_bool HE.out, HX.out.2.1.trans_same (HF.out.alloc _)⟩
                · have v2 : y1 = 0 := by simpa using w2
                  subst v2
                  cases w3 : y2 == 0
                  · have v1 : (y2 != 0) = true := by unfold bne; rw [w3]; rfl
                    have v2 : ¬ y2 = 0 := by simpa using w3
                    have HE : Hid (false = R) := Lib.hid (by
                      rw [HA.out]
                      have h2 : (((0 : Int), y2) == ((0, 0) : Int × Int)) = false := by simp [v2]
                      have h : fateOk (0, y2) = false := by unfold fateOk; rw [h2]; rfl
                      rw [h]; rfl)
                    go_wp2_with fail
                    go_ret
                    exact ⟨ret_bool HE.out, HX.out.2.1.trans_same (HF.out.alloc _)⟩
                  · have v2 : y2 = 0 := by simpa using w3
                    subst v2
                    have HR2 : Hid (R = (fs.drop (i + 1)).all fateOk) := Lib.hid (by rw [HA.out]; rfl)
                    go_wp2_with fail
                    go_roundg (gk - 1)
                    case measure => have := HG.out; omega
                    case rel => exact ⟨i + 1, by go_num, by omega, Lib.hid (HF.out.alloc _), HR2, by have := HG.out; omega⟩
            · have hlti : ¬ (i : Int) < (n2 : Int) := by omega
              have HE : Hid (true = R) := Lib.hid (by rw [HR.out, List.drop_eq_nil_of_le (by rw [HX.out.2.2.2]; omega)]; rfl)
              go_wp2_with fail
              go_ret
              exact ⟨ret_bool HE.out, HX.out.2.1.trans_same HF.out⟩
        · have HE : Hid (false = R) := Lib.hid (by
            by_cases h : Bad2 k cn n1 n2 n3
            · exact (HB.out (.inr h)).symm
            · have := HZ2.out.2 h; cases this)
          go_wp2_with fail
          go_ret
          exact ⟨ret_bool HE.out, HX.out.2.1⟩
    · have HE : Hid (false = R) := Lib.hid (by
        by_cases h : Bad1 k n1 n2 n3
        · exact (HB.out (.inl h)).symm
        · have := HZ1.out.2 h; cases this)
      go_wp2_with fail
      go_ret
      exact ⟨ret_bool HE.out, HX.out.2.1⟩
end Go.Proofs.YtjidpccgjiogbaaGreatDoor
