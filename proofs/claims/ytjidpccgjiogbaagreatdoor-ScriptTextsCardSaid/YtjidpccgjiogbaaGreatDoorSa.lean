/-
  The document's Same walked.
-/
import Derived.Test.YtjidpccgjiogbaaGreatDoorEv
import Derived.Deep.LoopGhost
import Derived.Deep.DeepCutAuto
import Derived.Deep.DeepMust
import Derived.Deep.CutBlock
import Derived.BigQuiet
import Derived.Deep.QuietTactic
namespace Go.Proofs.YtjidpccgjiogbaaGreatDoor
open Go Go.RowKit
theorem cells5 {w : World} {b : Nat} {v0 v1 v2 v3 v4 : Value} {t : TypeId} (h : w.heap[b]? = some (.cells #[v0, v1, v2, v3, v4] t (0, 0))) :
    (w.cell? ⟨b, 0, none⟩ = some v0 ∧ w.cell? ⟨b, 1, none⟩ = some v1 ∧ w.cell? ⟨b, 2, none⟩ = some v2 ∧ w.cell? ⟨b, 3, none⟩ = some v3 ∧ w.cell? ⟨b, 4, none⟩ = some v4) ∧ b < w.heap.size :=
  ⟨⟨by simp [World.cell?, h], by simp [World.cell?, h], by simp [World.cell?, h], by simp [World.cell?, h], by simp [World.cell?, h]⟩, lt_of_block h⟩
theorem CellsAt.one {w : World} {a : Option Addr} {cs : List Value} (h : CellsAt w a cs) {j : Nat} (hj : j < cs.length) : ∃ b off, a = some ⟨b, off, none⟩ ∧ b < w.heap.size ∧ ∀ j v, cs[j]? = some v → w.cell? ⟨b, off + j, none⟩ = some v := by
  rcases h with h | h
  · subst h; simp at hj
  · exact h
theorem CellsAt.int {w : World} {a : Option Addr} {l : List Int} (h : CellsAt w a (intCs l)) (i : Nat) (hi : i < l.length) : ∃ b off, a = some ⟨b, off, none⟩ ∧ b < w.heap.size ∧ w.cell? ⟨b, off + i, none⟩ = some (.int .i64 l[i]) := by
  obtain ⟨b, off, e, hl, hc⟩ := h.one (j := i) (by simpa [intCs] using hi)
  exact ⟨b, off, e, hl, hc i _ (by simp [intCs, hi])⟩
theorem CellsAt.fate {w : World} {a : Option Addr} {l : List (Int × Int)} (h : CellsAt w a (fateCs l)) (i : Nat) (hi : i < l.length) : ∃ b off, a = some ⟨b, off, none⟩ ∧ b < w.heap.size ∧ w.cell? ⟨b, off + i * 2, none⟩ = some (.int .i64 l[i].1) ∧ w.cell? ⟨b, off + i * 2 + 1, none⟩ = some (.int .i64 l[i].2) := by
  have h2 := fateCs_at l i hi
  obtain ⟨b, off, e, hl, hc⟩ := h.one (j := i * 2) (List.getElem?_eq_some_iff.1 h2.1).1
  exact ⟨b, off, e, hl, hc _ _ h2.1, hc _ _ h2.2⟩
theorem list_eq_at {α : Type} {l k : List α} (hn : l.length = k.length) (h : ∀ i (hi : i < l.length), l[i] = k[i]'(by omega)) : l = k := List.ext_getElem hn (fun i h1 _ => h i h1)
set_option maxRecDepth 100000 in
set_option maxHeartbeats 8000000 in
theorem rsame_any (v u : Value) (e f : Ev) (w : World) (hv : EvAt w v e) (hu : EvAt w u f) (he : e.small) (hf : f.small) :
    Calls Tryz.prog 14 #[v, u] w fun en w' => en = .returned (.bool (same31 e f)) ∧ Fr No w w' := by
  obtain ⟨a1, c1, a2, c2, a3, c3, rfl, x1, x2, x3⟩ := hv.form
  obtain ⟨b1, d1, b2, d2, b3, d3, rfl, y1, y2, y3⟩ := hu.form
  clear hv hu
  obtain ⟨k, cn, bs, fs, ps⟩ := e
  obtain ⟨k', cn', bs', fs', ps'⟩ := f
  simp only at x1 x2 x3 y1 y2 y3 ⊢
  obtain ⟨he1, he2, he3⟩ := he
  obtain ⟨hf1, hf2, hf3⟩ := hf
  simp only at he1 he2 he3 hf1 hf2 hf3
  obtain ⟨W0, hW0⟩ : ∃ W0, W0 = (w.alloc (.cells #[.int .i64 k, .int .i64 cn, .slice a1 bs.length c1, .slice a2 fs.length c2, .slice a3 ps.length c3] 27)).alloc (.cells #[.int .i64 k', .int .i64 cn', .slice b1 bs'.length d1, .slice b2 fs'.length d2, .slice b3 ps'.length d3] 27) := ⟨_, rfl⟩
  have hf0 : Fr No w W0 := by rw [hW0]; exact ((Fr.refl _ _).alloc _).alloc _
  have cv1 := conv_bytes W0 a1 c1 bs (x1.no hf0)
  have cv2 := conv_bytes W0 b1 d1 bs' (y1.no hf0)
  obtain ⟨S1, hS1⟩ : ∃ S1 : ByteArray, S1 = ⟨bs.toArray⟩ := ⟨_, rfl⟩
  obtain ⟨S2, hS2⟩ : ∃ S2 : ByteArray, S2 = ⟨bs'.toArray⟩ := ⟨_, rfl⟩
  rw [← hS1] at cv1
  rw [← hS2] at cv2
  have HS : Hid (S1.toList = bs ∧ S2.toList = bs') := Lib.hid (by rw [hS1, hS2]; exact ⟨by rw [Lib.toList_data], by rw [Lib.toList_data]⟩)
  have HX := Lib.hid (And.intro (x2.no hf0) (And.intro (x3.no hf0) (And.intro (y2.no hf0) (y3.no hf0))))
  have HF := Lib.hid hf0
  obtain ⟨⟨p0, p1, p2, p3, p4⟩, pl⟩ := cells5 (show W0.heap[w.heap.size]? = some _ by rw [hW0]; exact heap_alloc2_old w _ _)
  obtain ⟨⟨r0, r1, r2, r3, r4⟩, rl⟩ := cells5 (show W0.heap[w.heap.size + 1]? = some _ by rw [hW0]; exact heap_alloc2_new w _ _)
  obtain ⟨z, hz⟩ : ∃ z : Bool, z = !(k == k' && cn == cn' && bs == bs' && fs.length == fs'.length && ps.length == ps'.length) := ⟨_, rfl⟩
  obtain ⟨R, hR⟩ : ∃ R, R = same31 ⟨k, cn, bs, fs, ps⟩ ⟨k', cn', bs', fs', ps'⟩ := ⟨_, rfl⟩
  rw [← hR]
  have HZ := Lib.hid (And.intro hz hR)
  obtain ⟨n1, hn1⟩ : ∃ n1, bs.length = n1 := ⟨_, rfl⟩
  obtain ⟨m1, hm1⟩ : ∃ m1, bs'.length = m1 := ⟨_, rfl⟩
  obtain ⟨n2, hn2⟩ : ∃ n2, fs.length = n2 := ⟨_, rfl⟩
  obtain ⟨m2, hm2⟩ : ∃ m2, fs'.length = m2 := ⟨_, rfl⟩
  obtain ⟨n3, hn3⟩ : ∃ n3, ps.length = n3 := ⟨_, rfl⟩
  obtain ⟨m3, hm3⟩ : ∃ m3, ps'.length = m3 := ⟨_, rfl⟩
  rw [hn1] at cv1 p2 he1 hW0 ⊢
  rw [hm1] at cv2 r2 hf1 hW0 ⊢
  rw [hn2] at p3 he2 hW0 ⊢
  rw [hm2] at r3 hf2 hW0 ⊢
  rw [hn3] at p4 he3 hW0 ⊢
  rw [hm3] at r4 hf3 hW0 ⊢
  have HN := Lib.hid (And.intro (And.intro hn2 hm2) (And.intro hn3 hm3))
  clear hS1 hS2 x1 x2 x3 y1 y2 y3 hf0 hz hR hn1 hm1 hn2 hm2 hn3 hm3
  go_enter Tryz.func14, Tryz.ntmps14
  go_upto_region 1 with fail
  rw [← hW0]
  clear hW0
  go_cut [45] (fun v wx => W0 = wx ∧ v = .bool z)
  case first =>
    cases q0 : k == k'
    · have e0 : (k != k') = true := by unfold bne; rw [q0]; rfl
      have HE : Hid (true = z) := Lib.hid (by rw [HZ.out.1, q0]; rfl)
      go_wp2_with fail
      go_meet
      exact ⟨rfl, congrArg Value.bool HE.out⟩
    · have e0 : (k != k') = false := by unfold bne; rw [q0]; rfl
      cases q1 : cn == cn'
      · have e1 : (cn != cn') = true := by unfold bne; rw [q1]; rfl
        have HE : Hid (true = z) := Lib.hid (by rw [HZ.out.1, q0, q1]; rfl)
        go_wp2_with fail
        go_meet
        exact ⟨rfl, congrArg Value.bool HE.out⟩
      · have e1 : (cn != cn') = false := by unfold bne; rw [q1]; rfl
        cases q2 : S1.toList == S2.toList
        · have HE : Hid (true = z) := Lib.hid (by rw [HZ.out.1, q0, q1, ← HS.out.1, ← HS.out.2, q2]; rfl)
          go_wp2_with fail
          go_meet
          exact ⟨rfl, congrArg Value.bool HE.out⟩
        · cases q3 : (n2 : Int) != (m2 : Int)
          · have h3 : (fs.length == fs'.length) = true := by rw [HN.out.1.1, HN.out.1.2, beq_iff_eq]; simp at q3; omega
            cases q4 : (n3 : Int) != (m3 : Int)
            · have h4 : (ps.length == ps'.length) = true := by rw [HN.out.2.1, HN.out.2.2, beq_iff_eq]; simp at q4; omega
              have HE : Hid (false = z) := Lib.hid (by rw [HZ.out.1, q0, q1, ← HS.out.1, ← HS.out.2, q2, h3, h4]; rfl)
              clear h3 h4
              go_wp2_with fail
              go_meet
              exact ⟨rfl, congrArg Value.bool HE.out⟩
            · have h4 : (ps.length == ps'.length) = false := by rw [HN.out.2.1, HN.out.2.2, beq_eq_false_iff_ne]; simp at q4; omega
              have HE : Hid (true = z) := Lib.hid (by rw [HZ.out.1, q0, q1, ← HS.out.1, ← HS.out.2, q2, h3, h4]; rfl)
              clear h3 h4
              go_wp2_with fail
              go_meet
              exact ⟨rfl, congrArg Value.bool HE.out⟩
          · have h3 : (fs.length == fs'.length) = false := by rw [HN.out.1.1, HN.out.1.2, beq_eq_false_iff_ne]; simp at q3; omega
            have HE : Hid (true = z) := Lib.hid (by rw [HZ.out.1, q0, q1, ← HS.out.1, ← HS.out.2, q2, h3]; rfl)
            clear h3
            go_wp2_with fail
            go_meet
            exact ⟨rfl, congrArg Value.bool HE.out⟩
  case rest =>
    obtain ⟨rfl, rfl⟩ := hcut
    cases z
    · have HR : Hid (n2 = m2 ∧ n3 = m3 ∧ R = (fs == fs' && ps == ps')) := Lib.hid (by
        have h := HZ.out.1
        have h2 := HN.out
        rw [eq_comm, Bool.not_eq_false'] at h
        simp only [Bool.and_eq_true, beq_iff_eq] at h
        refine ⟨by omega, by omega, ?_⟩
        rw [HZ.out.2]
        unfold same31
        simp only
        rw [beq_iff_eq.2 h.1.1.1.1, beq_iff_eq.2 h.1.1.1.2, beq_iff_eq.2 h.1.1.2]
        rfl)
      clear HZ HS cv1 cv2
      have hnm2 := HR.out.1
      have hnm3 := HR.out.2.1
      subst hnm2
      subst hnm3
      go_wp2_with fail
      go_loopg [5] n2 (fun g v wr => ∃ i q : Nat, v = .int .i64 i ∧ W0.drewN q = wr ∧ i ≤ n2 ∧ Hid (∀ j (h1 : j < fs.length) (h2 : j < fs'.length), j < i → fs[j] = fs'[j]) ∧ g + i = n2)
      case atStart => exact ⟨0, 0, rfl, rfl, by omega, Lib.hid (fun j _ _ h => absurd h (Nat.not_lt_zero _)), by omega⟩
      case round =>
        obtain ⟨i, q, rfl, rfl, hi, HI, hg⟩ := hrel
        have HG := Lib.hid hg
        clear hg
        by_cases hlt : i < n2
        · have hlti : (i : Int) < (n2 : Int) := by omega
          have h1 : i < fs.length := by rw [HN.out.1.1]; exact hlt
          have h2 : i < fs'.length := by rw [HN.out.1.2]; exact hlt
          obtain ⟨g1, o1, rfl, gl1, s1, s2⟩ := HX.out.1.fate i h1
          obtain ⟨g2, o2, rfl, gl2, u1, u2⟩ := HX.out.2.2.1.fate i h2
          obtain ⟨⟨y1, y2⟩, hy⟩ : ∃ y, fs[i] = y := ⟨_, rfl⟩
          obtain ⟨⟨t1, t2⟩, ht⟩ : ∃ y, fs'[i] = y := ⟨_, rfl⟩
          rw [hy] at s1 s2
          rw [ht] at u1 u2
          simp only at s1 s2 u1 u2
          have HY := Lib.hid (And.intro hy ht)
          clear hy ht
          have HNE : Hid ((y1 = t1 → y2 = t2 → False) → false = R) := Lib.hid (fun h => by
            rw [HR.out.2.2]
            symm
            rw [Bool.and_eq_false_iff]
            left
            rw [beq_eq_false_iff_ne]
            intro e
            have e1 := HY.out
            subst e
            rw [e1.1] at e1
            have e2 := e1.2
            cases e2
            exact h rfl rfl)
          cases w1 : y1 == t1
          · have v1 : (y1 != t1) = true := by unfold bne; rw [w1]; rfl
            have v2 : ¬ y1 = t1 := by simpa using w1
            have HE := Lib.hid (HNE.out (fun e _ => v2 e))
            go_wp2_with (go_quiet (fail))
            go_ret
            first | exact ⟨congrArg (fun b => Ending.returned (.bool b)) HE.out, HF.out.drewN _⟩ | exact ⟨congrArg (fun b => Ending.returned (.bool b)) HE.out, (HF.out.drewN _).drewN _⟩
          · have v2 : y1 = t1 := by simpa using w1
            subst v2
            cases w2 : y2 == t2
            · have v1 : (y2 != t2) = true := by unfold bne; rw [w2]; rfl
              have v2 : ¬ y2 = t2 := by simpa using w2
              have HE := Lib.hid (HNE.out (fun _ e => v2 e))
              go_wp2_with (go_quiet (fail))
              go_ret
              first | exact ⟨congrArg (fun b => Ending.returned (.bool b)) HE.out, HF.out.drewN _⟩ | exact ⟨congrArg (fun b => Ending.returned (.bool b)) HE.out, (HF.out.drewN _).drewN _⟩
            · have v2 : y2 = t2 := by simpa using w2
              subst v2
              have HI2 : Hid (∀ j (h1 : j < fs.length) (h2 : j < fs'.length), j < i + 1 → fs[j] = fs'[j]) := Lib.hid (fun j g1 g2 hj => by
                by_cases e : j = i
                · subst e; exact HY.out.1.trans HY.out.2.symm
                · exact HI.out j g1 g2 (by omega))
              clear HNE
              go_wp2_with (go_quiet (fail))
              go_roundg (gk - 1)
              case measure => have := HG.out; omega
              case rel => exact ⟨i + 1, _, by go_num, rfl, by omega, HI2, by have := HG.out; omega⟩
        · have hlti : ¬ (i : Int) < (n2 : Int) := by omega
          have HFE : Hid (R = (ps == ps')) := Lib.hid (by
            have e : fs = fs' := list_eq_at (by rw [HN.out.1.1, HN.out.1.2]) (fun j hj => HI.out j hj (by rw [HN.out.1.2]; rw [HN.out.1.1] at hj; exact hj) (by rw [HN.out.1.1] at hj; omega))
            rw [HR.out.2.2, e, beq_self_eq_true]; rfl)
          clear HI HR
          go_wp2_with fail
          go_loopg [6] n3 (fun g v wr => ∃ i q : Nat, v = .int .i64 i ∧ W0.drewN q = wr ∧ i ≤ n3 ∧ Hid (∀ j (h1 : j < ps.length) (h2 : j < ps'.length), j < i → ps[j] = ps'[j]) ∧ g + i = n3)
          case atStart => exact ⟨0, q, rfl, rfl, by omega, Lib.hid (fun j _ _ h => absurd h (Nat.not_lt_zero _)), by omega⟩
          case round =>
            obtain ⟨j, q2, rfl, rfl, hj, HI, hg2⟩ := hrel
            have HG2 := Lib.hid hg2
            clear hg2
            by_cases hlt2 : j < n3
            · have hlti2 : (j : Int) < (n3 : Int) := by omega
              have h1 : j < ps.length := by rw [HN.out.2.1]; exact hlt2
              have h2 : j < ps'.length := by rw [HN.out.2.2]; exact hlt2
              obtain ⟨g1, o1, rfl, gl1, s1⟩ := HX.out.2.1.int j h1
              obtain ⟨g2, o2, rfl, gl2, u1⟩ := HX.out.2.2.2.int j h2
              obtain ⟨y1, hy⟩ : ∃ y, ps[j] = y := ⟨_, rfl⟩
              obtain ⟨t1, ht⟩ : ∃ y, ps'[j] = y := ⟨_, rfl⟩
              rw [hy] at s1
              rw [ht] at u1
              have HY := Lib.hid (And.intro hy ht)
              clear hy ht
              cases w1 : y1 == t1
              · have v1 : (y1 != t1) = true := by unfold bne; rw [w1]; rfl
                have v2 : ¬ y1 = t1 := by simpa using w1
                have HE : Hid (false = R) := Lib.hid (by
                  rw [HFE.out]
                  symm
                  rw [beq_eq_false_iff_ne]
                  intro e
                  have e1 := HY.out
                  subst e
                  exact v2 (e1.1.symm.trans e1.2))
                go_wp2_with (go_quiet (fail))
                go_ret
                first | exact ⟨congrArg (fun b => Ending.returned (.bool b)) HE.out, HF.out.drewN _⟩ | exact ⟨congrArg (fun b => Ending.returned (.bool b)) HE.out, (HF.out.drewN _).drewN _⟩
              · have v2 : y1 = t1 := by simpa using w1
                subst v2
                have HI2 : Hid (∀ i (h1 : i < ps.length) (h2 : i < ps'.length), i < j + 1 → ps[i] = ps'[i]) := Lib.hid (fun i g1 g2 hj => by
                  by_cases e : i = j
                  · subst e; exact HY.out.1.trans HY.out.2.symm
                  · exact HI.out i g1 g2 (by omega))
                go_wp2_with (go_quiet (fail))
                go_roundg (gk - 1)
                case measure => have := HG2.out; omega
                case rel => exact ⟨j + 1, _, by go_num, rfl, by omega, HI2, by have := HG2.out; omega⟩
            · have hlti2 : ¬ (j : Int) < (n3 : Int) := by omega
              have HE : Hid (true = R) := Lib.hid (by
                have e : ps = ps' := list_eq_at (by rw [HN.out.2.1, HN.out.2.2]) (fun i hi => HI.out i hi (by rw [HN.out.2.2]; rw [HN.out.2.1] at hi; exact hi) (by rw [HN.out.2.1] at hi; omega))
                rw [HFE.out, e, beq_self_eq_true])
              go_wp2_with fail
              go_ret
              first | exact ⟨congrArg (fun b => Ending.returned (.bool b)) HE.out, HF.out.drewN _⟩ | exact ⟨congrArg (fun b => Ending.returned (.bool b)) HE.out, (HF.out.drewN _).drewN _⟩
    · have HE : Hid (false = R) := Lib.hid (by
        have h := HZ.out.1
        rw [HZ.out.2]
        unfold same31
        simp only
        rw [eq_comm, Bool.not_eq_true'] at h
        symm
        rw [Bool.eq_false_iff] at h ⊢
        intro h2
        apply h
        simp only [Bool.and_eq_true, beq_iff_eq] at h2 ⊢
        exact ⟨⟨⟨⟨h2.1.1.1.1, h2.1.1.1.2⟩, h2.1.1.2⟩, by rw [h2.1.2]⟩, by rw [h2.2]⟩)
      go_wp2_with fail
      go_ret
      exact ⟨congrArg (fun b => Ending.returned (.bool b)) HE.out, HF.out⟩
end Go.Proofs.YtjidpccgjiogbaaGreatDoor
