/-
  bytes.Equal, slices.Equal, and the program's Same walked.
-/
import Derived.Test.YtimglodailhkaaaGreatSa
namespace Go.Proofs.YtimglodailhkaaaGreat
open Go Go.RowKit
theorem ret_bool {a b : Bool} (h : a = b) : Ending.returned (.bool a) = .returned (.bool b) := by rw [h]
set_option maxRecDepth 100000 in
set_option maxHeartbeats 4000000 in
theorem bytesEqual_any (a b : Option Addr) (c d n m : Nat) (l k : Bytes) (w : World) (hn : l.length = n) (hm : k.length = m) (hl : CellsAt w a (byteCs l)) (hk : CellsAt w b (byteCs k)) :
    Calls Tryz.prog 41 #[.slice a n c, .slice b m d] w fun e w' => e = .returned (.bool (l == k)) ∧ w = w' := by
  have cv1 := conv_bytes w a c l hl
  have cv2 := conv_bytes w b d k hk
  rw [hn] at cv1
  rw [hm] at cv2
  obtain ⟨S1, hS1⟩ : ∃ S1 : ByteArray, S1 = ⟨l.toArray⟩ := ⟨_, rfl⟩
  obtain ⟨S2, hS2⟩ : ∃ S2 : ByteArray, S2 = ⟨k.toArray⟩ := ⟨_, rfl⟩
  rw [← hS1] at cv1
  rw [← hS2] at cv2
  have e : (l == k) = (S1.toList == S2.toList) := by rw [hS1, hS2, Lib.toList_data, Lib.toList_data]
  rw [e]
  clear hl hk hS1 hS2 e hn hm
  go_enter Tryz.func41, Tryz.ntmps41
  go_wp2_with fail
  go_ret
  exact ⟨rfl, rfl⟩
set_option maxRecDepth 100000 in
set_option maxHeartbeats 8000000 in
theorem fatesEqual_any (a b : Option Addr) (c d n m : Nat) (fs fs' : List (Int × Int)) (w : World) (hn : fs.length = n) (hm : fs'.length = m) (hl : CellsAt w a (fateCs fs)) (hk : CellsAt w b (fateCs fs')) (h1 : n ≤ 1000000000000) (h2 : m ≤ 1000000000000) :
    Calls Tryz.prog 42 #[.slice a n c, .slice b m d] w fun e w' => e = .returned (.bool (fs == fs')) ∧ ∃ q, w.drewN q = w' := by
  obtain ⟨R, hR⟩ : ∃ R, R = (fs == fs') := ⟨_, rfl⟩
  rw [← hR]
  have HR := Lib.hid hR
  have HN := Lib.hid (And.intro hn hm)
  have HX := Lib.hid (And.intro hl hk)
  clear hR hn hm hl hk
  cases q3 : (n : Int) != (m : Int)
  · have hnm : n = m := by simp at q3; omega
    subst hnm
    clear q3
    go_enter Tryz.func42, Tryz.ntmps42
    go_wp2_with fail
    go_loopg [13] n (fun g v wr => ∃ i q : Nat, v = .int .i64 i ∧ w.drewN q = wr ∧ i ≤ n ∧ Hid (∀ j (h1 : j < fs.length) (h2 : j < fs'.length), j < i → fs[j] = fs'[j]) ∧ g + i = n)
    case atStart => exact ⟨0, 0, rfl, rfl, by omega, Lib.hid (fun j _ _ h => absurd h (Nat.not_lt_zero _)), by omega⟩
    case round =>
      obtain ⟨i, q, rfl, rfl, hi, HI, hg⟩ := hrel
      have HG := Lib.hid hg
      clear hg
      by_cases hlt : i < n
      · have hlti : (i : Int) < (n : Int) := by omega
        have l1 : i < fs.length := by rw [HN.out.1]; exact hlt
        have l2 : i < fs'.length := by rw [HN.out.2]; exact hlt
        obtain ⟨g1, o1, rfl, gl1, s1, s2⟩ := HX.out.1.fate i l1
        obtain ⟨g2, o2, rfl, gl2, u1, u2⟩ := HX.out.2.fate i l2
        obtain ⟨⟨y1, y2⟩, hy⟩ : ∃ y, fs[i] = y := ⟨_, rfl⟩
        obtain ⟨⟨t1, t2⟩, ht⟩ : ∃ y, fs'[i] = y := ⟨_, rfl⟩
        rw [hy] at s1 s2
        rw [ht] at u1 u2
        simp only at s1 s2 u1 u2
        have HY := Lib.hid (And.intro hy ht)
        clear hy ht
        have HNE : Hid ((y1 = t1 → y2 = t2 → False) → false = R) := Lib.hid (fun h => by
          rw [HR.out]
          symm
          rw [beq_eq_false_iff_ne]
          intro e
          have e1 := HY.out
          subst e
          rw [e1.1] at e1
          have e2 := e1.2
          cases e2
          exact h rfl rfl)
        cases w1 : y1 == t1
        · have v1 : (y1 != t1) = true := by unfold bne; rw [w1]; rfl
          have v2 : ¬ y1 = t1 := by simpa using w1
          have HE := Lib.hid (HNE.out (fun e _ => v2 e))
          go_wp2_with (go_quiet (fail))
          go_ret
          first | exact ⟨ret_bool HE.out, _, rfl⟩ | exact ⟨ret_bool HE.out, _, (World.drewN_drewN _ _ _).symm⟩
        · have v2 : y1 = t1 := by simpa using w1
          subst v2
          cases w2 : y2 == t2
          · have v1 : (y2 != t2) = true := by unfold bne; rw [w2]; rfl
            have v2 : ¬ y2 = t2 := by simpa using w2
            have HE := Lib.hid (HNE.out (fun _ e => v2 e))
            go_wp2_with (go_quiet (fail))
            go_ret
            first | exact ⟨ret_bool HE.out, _, rfl⟩ | exact ⟨ret_bool HE.out, _, (World.drewN_drewN _ _ _).symm⟩
          · have v2 : y2 = t2 := by simpa using w2
            subst v2
            have HI2 : Hid (∀ j (h1 : j < fs.length) (h2 : j < fs'.length), j < i + 1 → fs[j] = fs'[j]) := Lib.hid (fun j g1 g2 hj => by
              by_cases e : j = i
              · subst e; exact HY.out.1.trans HY.out.2.symm
              · exact HI.out j g1 g2 (by omega))
            clear HNE
            go_wp2_with (go_quiet (fail))
            go_roundg (gk - 1)
            case measure => have := HG.out; omega
            case rel => exact ⟨i + 1, _, by go_num, rfl, by omega, HI2, by have := HG.out; omega⟩
      · have hlti : ¬ (i : Int) < (n : Int) := by omega
        have HE : Hid (true = R) := Lib.hid (by
          have e : fs = fs' := list_eq_at (by rw [HN.out.1, HN.out.2]) (fun j hj => HI.out j hj (by rw [HN.out.2]; rw [HN.out.1] at hj; exact hj) (by rw [HN.out.1] at hj; omega))
          rw [HR.out, e, beq_self_eq_true])
        go_wp2_with fail
        go_ret
        exact ⟨ret_bool HE.out, _, rfl⟩
  · have HE : Hid (false = R) := Lib.hid (by
      rw [HR.out]
      symm
      rw [beq_eq_false_iff_ne]
      intro e
      have h := HN.out
      rw [e, h.2] at h
      have h2 := h.1
      subst h2
      simp at q3)
    go_enter Tryz.func42, Tryz.ntmps42
    go_wp2_with fail
    go_ret
    exact ⟨ret_bool HE.out, 0, rfl⟩
set_option maxRecDepth 100000 in
set_option maxHeartbeats 8000000 in
theorem intsEqual_any (a b : Option Addr) (c d n m : Nat) (fs fs' : List Int) (w : World) (hn : fs.length = n) (hm : fs'.length = m) (hl : CellsAt w a (intCs fs)) (hk : CellsAt w b (intCs fs')) (h1 : n ≤ 1000000000000) (h2 : m ≤ 1000000000000) :
    Calls Tryz.prog 43 #[.slice a n c, .slice b m d] w fun e w' => e = .returned (.bool (fs == fs')) ∧ ∃ q, w.drewN q = w' := by
  obtain ⟨R, hR⟩ : ∃ R, R = (fs == fs') := ⟨_, rfl⟩
  rw [← hR]
  have HR := Lib.hid hR
  have HN := Lib.hid (And.intro hn hm)
  have HX := Lib.hid (And.intro hl hk)
  clear hR hn hm hl hk
  cases q3 : (n : Int) != (m : Int)
  · have hnm : n = m := by simp at q3; omega
    subst hnm
    clear q3
    go_enter Tryz.func43, Tryz.ntmps43
    go_wp2_with fail
    go_loopg [13] n (fun g v wr => ∃ i q : Nat, v = .int .i64 i ∧ w.drewN q = wr ∧ i ≤ n ∧ Hid (∀ j (h1 : j < fs.length) (h2 : j < fs'.length), j < i → fs[j] = fs'[j]) ∧ g + i = n)
    case atStart => exact ⟨0, 0, rfl, rfl, by omega, Lib.hid (fun j _ _ h => absurd h (Nat.not_lt_zero _)), by omega⟩
    case round =>
      obtain ⟨i, q, rfl, rfl, hi, HI, hg⟩ := hrel
      have HG := Lib.hid hg
      clear hg
      by_cases hlt : i < n
      · have hlti : (i : Int) < (n : Int) := by omega
        have l1 : i < fs.length := by rw [HN.out.1]; exact hlt
        have l2 : i < fs'.length := by rw [HN.out.2]; exact hlt
        obtain ⟨g1, o1, rfl, gl1, s1⟩ := HX.out.1.int i l1
        obtain ⟨g2, o2, rfl, gl2, u1⟩ := HX.out.2.int i l2
        obtain ⟨y1, hy⟩ : ∃ y, fs[i] = y := ⟨_, rfl⟩
        obtain ⟨t1, ht⟩ : ∃ y, fs'[i] = y := ⟨_, rfl⟩
        rw [hy] at s1
        rw [ht] at u1
        have HY := Lib.hid (And.intro hy ht)
        clear hy ht
        cases w1 : y1 == t1
        · have v1 : (y1 != t1) = true := by unfold bne; rw [w1]; rfl
          have v2 : ¬ y1 = t1 := by simpa using w1
          have HE : Hid (false = R) := Lib.hid (by
            rw [HR.out]
            symm
            rw [beq_eq_false_iff_ne]
            intro e
            have e1 := HY.out
            subst e
            exact v2 (e1.1.symm.trans e1.2))
          go_wp2_with (go_quiet (fail))
          go_ret
          first | exact ⟨ret_bool HE.out, _, rfl⟩ | exact ⟨ret_bool HE.out, _, (World.drewN_drewN _ _ _).symm⟩
        · have v2 : y1 = t1 := by simpa using w1
          subst v2
          have HI2 : Hid (∀ j (h1 : j < fs.length) (h2 : j < fs'.length), j < i + 1 → fs[j] = fs'[j]) := Lib.hid (fun j g1 g2 hj => by
            by_cases e : j = i
            · subst e; exact HY.out.1.trans HY.out.2.symm
            · exact HI.out j g1 g2 (by omega))
          go_wp2_with (go_quiet (fail))
          go_roundg (gk - 1)
          case measure => have := HG.out; omega
          case rel => exact ⟨i + 1, _, by go_num, rfl, by omega, HI2, by have := HG.out; omega⟩
      · have hlti : ¬ (i : Int) < (n : Int) := by omega
        have HE : Hid (true = R) := Lib.hid (by
          have e : fs = fs' := list_eq_at (by rw [HN.out.1, HN.out.2]) (fun j hj => HI.out j hj (by rw [HN.out.2]; rw [HN.out.1] at hj; exact hj) (by rw [HN.out.1] at hj; omega))
          rw [HR.out, e, beq_self_eq_true])
        go_wp2_with fail
        go_ret
        exact ⟨ret_bool HE.out, _, rfl⟩
  · have HE : Hid (false = R) := Lib.hid (by
      rw [HR.out]
      symm
      rw [beq_eq_false_iff_ne]
      intro e
      have h := HN.out
      rw [e, h.2] at h
      have h2 := h.1
      subst h2
      simp at q3)
    go_enter Tryz.func43, Tryz.ntmps43
    go_wp2_with fail
    go_ret
    exact ⟨ret_bool HE.out, 0, rfl⟩
set_option maxRecDepth 100000 in
set_option maxHeartbeats 8000000 in
theorem same_any (v u : Value) (e f : Ev) (w : World) (hv : EvAt w v e) (hu : EvAt w u f) (he : e.small) (hf : f.small) :
    Calls Tryz.prog 29 #[v, u] w fun en w' => en = .returned (.bool (same31 e f)) ∧ Fr No w w' := by
  obtain ⟨a1, c1, a2, c2, a3, c3, rfl, x1, x2, x3⟩ := hv.form
  obtain ⟨b1, d1, b2, d2, b3, d3, rfl, y1, y2, y3⟩ := hu.form
  clear hv hu
  obtain ⟨k, cn, bs, fs, ps⟩ := e
  obtain ⟨k', cn', bs', fs', ps'⟩ := f
  simp only at x1 x2 x3 y1 y2 y3 ⊢
  obtain ⟨he1, he2, he3⟩ := he
  obtain ⟨hf1, hf2, hf3⟩ := hf
  simp only at he1 he2 he3 hf1 hf2 hf3
  obtain ⟨W0, hW0⟩ : ∃ W0, W0 = (w.alloc (.cells #[.int .i64 k, .int .i64 cn, .slice a1 bs.length c1, .slice a2 fs.length c2, .slice a3 ps.length c3] 28)).alloc (.cells #[.int .i64 k', .int .i64 cn', .slice b1 bs'.length d1, .slice b2 fs'.length d2, .slice b3 ps'.length d3] 28) := ⟨_, rfl⟩
  have hf0 : Fr No w W0 := by rw [hW0]; exact ((Fr.refl _ _).alloc _).alloc _
  have HF := Lib.hid hf0
  obtain ⟨⟨p0, p1, p2, p3, p4⟩, pl⟩ := cells5 (show W0.heap[w.heap.size]? = some _ by rw [hW0]; exact heap_alloc2_old w _ _)
  obtain ⟨⟨r0, r1, r2, r3, r4⟩, rl⟩ := cells5 (show W0.heap[w.heap.size + 1]? = some _ by rw [hW0]; exact heap_alloc2_new w _ _)
  obtain ⟨R, hR⟩ : ∃ R, R = same31 ⟨k, cn, bs, fs, ps⟩ ⟨k', cn', bs', fs', ps'⟩ := ⟨_, rfl⟩
  rw [← hR]
  have HR := Lib.hid hR
  obtain ⟨n1, hn1⟩ : ∃ n1, bs.length = n1 := ⟨_, rfl⟩
  obtain ⟨m1, hm1⟩ : ∃ m1, bs'.length = m1 := ⟨_, rfl⟩
  obtain ⟨n2, hn2⟩ : ∃ n2, fs.length = n2 := ⟨_, rfl⟩
  obtain ⟨m2, hm2⟩ : ∃ m2, fs'.length = m2 := ⟨_, rfl⟩
  obtain ⟨n3, hn3⟩ : ∃ n3, ps.length = n3 := ⟨_, rfl⟩
  obtain ⟨m3, hm3⟩ : ∃ m3, ps'.length = m3 := ⟨_, rfl⟩
  rw [hn1] at p2 he1 hW0 ⊢
  rw [hm1] at r2 hf1 hW0 ⊢
  rw [hn2] at p3 he2 hW0 ⊢
  rw [hm2] at r3 hf2 hW0 ⊢
  rw [hn3] at p4 he3 hW0 ⊢
  rw [hm3] at r4 hf3 hW0 ⊢
  have C1 := Lib.hid (bytesEqual_any a1 b1 c1 d1 n1 m1 bs bs' W0 hn1 hm1 (x1.no hf0) (y1.no hf0))
  have C2 := Lib.hid (fatesEqual_any a2 b2 c2 d2 n2 m2 fs fs' W0 hn2 hm2 (x2.no hf0) (y2.no hf0) he2 hf2)
  have C3 := Lib.hid (fun q => intsEqual_any a3 b3 c3 d3 n3 m3 ps ps' (W0.drewN q) hn3 hm3 ((x3.no hf0).no ((Fr.refl _ _).drewN q)) ((y3.no hf0).no ((Fr.refl _ _).drewN q)) he3 hf3)
  clear x1 x2 x3 y1 y2 y3 hf0 hR hn1 hm1 hn2 hm2 hn3 hm3
  go_enter Tryz.func29, Tryz.ntmps29
  go_upto_region 1 with fail
  rw [← hW0]
  clear hW0
  cases q0 : k == k'
  · have HE : Hid (false = R) := Lib.hid (by rw [HR.out]; unfold same31; simp only; rw [q0]; rfl)
    go_wp2_with fail
    go_ret
    exact ⟨ret_bool HE.out, HF.out⟩
  · cases q1 : cn == cn'
    · have HE : Hid (false = R) := Lib.hid (by rw [HR.out]; unfold same31; simp only; rw [q0, q1]; rfl)
      go_wp2_with fail
      go_ret
      exact ⟨ret_bool HE.out, HF.out⟩
    · cases q2 : bs == bs'
      · have HE : Hid (false = R) := Lib.hid (by rw [HR.out]; unfold same31; simp only; rw [q0, q1, q2]; rfl)
        rw [q2] at C1
        clear q2
        go_wp2_with (go_at_call 41; refine C1.out.mono ?_; rintro e1 w1 ⟨rfl, rfl⟩)
        go_ret
        exact ⟨ret_bool HE.out, HF.out⟩
      · rw [q2] at C1
        have Q2 := Lib.hid q2
        clear q2
        cases q3 : fs == fs'
        · have HE : Hid (false = R) := Lib.hid (by rw [HR.out]; unfold same31; simp only; rw [q0, q1, Q2.out, q3]; rfl)
          rw [q3] at C2
          clear q3
          go_wp2_with (first | (go_at_call 41; refine C1.out.mono ?_; rintro e1 w1 ⟨rfl, rfl⟩) | (go_at_call 42; refine C2.out.mono ?_; rintro e1 w1 ⟨rfl, q, rfl⟩))
          go_ret
          exact ⟨ret_bool HE.out, HF.out.drewN _⟩
        · have HE : Hid ((ps == ps') = R) := Lib.hid (by rw [HR.out]; unfold same31; simp only; rw [q0, q1, Q2.out, q3]; rfl)
          rw [q3] at C2
          clear q3
          go_wp2_with (first | (go_at_call 41; refine C1.out.mono ?_; rintro e1 w1 ⟨rfl, rfl⟩) | (go_at_call 42; refine C2.out.mono ?_; rintro e1 w1 ⟨rfl, q, rfl⟩) | (go_at_call 43; refine (C3.out _).mono ?_; rintro e1 w1 ⟨rfl, q', rfl⟩; rw [HE.out]))
          go_ret
          first | exact ⟨rfl, HF.out.drewN _⟩ | exact ⟨rfl, (HF.out.drewN _).drewN _⟩
end Go.Proofs.YtimglodailhkaaaGreat
