/-
  Where the reader of a list stands: the event's block, the reader's block, the list that it has made.
-/
import Derived.Test.YtimglodailhkaaaGreatDg
namespace Go.Proofs.YtimglodailhkaaaGreat
open Go Go.RowKit
structure QS (T : TypeId) (sz : Nat) (ec : Value → Array Value) (w : World) (E r : Nat) (v : Value) (n : Nat) (xs : List Value) (tt : List Bytes) (W : World) : Prop where
  ev : W.heap[E]? = some (.cells (ec v) 28 (0, 0))
  rd : W.heap[r]? = some (.cells #[.string (strB (restOf tt))] TR (0, 0))
  ow : W.ownsRow w.heap.size T sz v n xs
  fr : Fr (Two E r) w W
  er : E ≠ r
section
variable {T : TypeId} {sz : Nat} {ec : Value → Array Value} {w : World} {E r : Nat} {v : Value} {n : Nat} {xs : List Value} {tt : List Bytes} {W : World}
theorem QS.no (h : QS T sz ec w E r v n xs tt W) {W' : World} (hf : Fr No W W') : QS T sz ec w E r v n xs tt W' :=
  ⟨hf.at h.ev (fun h => h), hf.at h.rd (fun h => h), (Kt.ofFr hf).owns h.ow, h.fr.trans_no hf, h.er⟩
theorem QS.rest (h : QS T sz ec w E r v n xs tt W) (hT : TR ≠ T) {t' : List Bytes} {W' : World} (hf : Rest r t' W W') : QS T sz ec w E r v n xs t' W' := by
  have h1 : QS T sz ec w E r v n xs t' (W.setCell ⟨r, 0, none⟩ (.string (strB (restOf t')))) :=
    ⟨(heap_setCell_other W ⟨r, 0, none⟩ E _ h.er).trans h.ev, one_setCell h.rd, (Kt.set (p := ⟨r, 0, none⟩) h.rd hT _).owns h.ow, h.fr.setCell _ _ (fun _ => .inr rfl), h.er⟩
  exact h1.no hf
theorem QS.setF (h : QS T sz ec w E r v n xs tt W) {F : Nat} (hF : w.heap.size ≤ F) (hE : F ≠ E) (hr : F ≠ r) (ho : v.ownBlock ≠ some F) (j : Nat) (u : Value) : QS T sz ec w E r v n xs tt (W.setCell ⟨F, j, none⟩ u) :=
  ⟨(heap_setCell_other W ⟨F, j, none⟩ E _ (fun e => hE e.symm)).trans h.ev, (heap_setCell_other W ⟨F, j, none⟩ r _ (fun e => hr e.symm)).trans h.rd, ownsRow_setCell_other h.ow ho u, h.fr.setCell _ _ (fun hlt => absurd hlt (by show ¬ F < _; omega)), h.er⟩
theorem QS.app (h : QS T sz ec w E r v n xs tt W) (hT : TR ≠ T) (hT2 : 28 ≠ T) {W2 : World} {v' : Value} {n' : Nat} {xs' : List Value} (k1 : W2.ownsRow w.heap.size T sz v' n' xs') (k2 : W.grownBy W2 v.ownBlock) (j : Nat) (hj : (ec v).setIfInBounds j v' = ec v') :
    QS T sz ec w E r v' n' xs' tt (W2.setCell ⟨E, j, none⟩ v') := by
  have e2 := Kt.grown h.ow k2 hT2 _ _ _ h.ev
  have r2 := Kt.grown h.ow k2 hT _ _ _ h.rd
  refine ⟨?_, (heap_setCell_other W2 ⟨E, j, none⟩ r _ (fun e => h.er e.symm)).trans r2, (Kt.set (p := ⟨E, j, none⟩) e2 hT2 v').owns k1, ?_, h.er⟩
  · rw [heap_setCell_same W2 E j _ _ _ e2, hj]
  · exact (h.fr.grown k2 (fun k e hk => by have := (World.ownsRow.lt h.ow k e).1; omega)).setCell _ _ (fun _ => .inl rfl)
theorem QS.own_new (h : QS T sz ec w E r v n xs tt W) : v.ownBlock ≠ some W.heap.size := fun e => by have := (World.ownsRow.lt h.ow _ e).2; omega
end
/-- The event's block is there. -/
def Shape (E : Nat) (W : World) : Prop := ∃ v0 v1 v2 v3 v4, W.heap[E]? = some (.cells #[v0, v1, v2, v3, v4] 28 (0, 0))
/-- What the reader of a list leaves behind: the list, or it has given up. -/
def QPost (T : TypeId) (sz : Nat) (ec : Value → Array Value) (w : World) (E r : Nat) (xs : Option (Nat × List Value)) (e : Ending) (w' : World) : Prop :=
  match xs with
  | none => e = .panicked wrongP ∧ Fr (Two E r) w w' ∧ Shape E w'
  | some nx => e = .returned (.tuple #[]) ∧ ∃ v, QS T sz ec w E r v nx.1 nx.2 [] w'
end Go.Proofs.YtimglodailhkaaaGreat
namespace Go.Proofs.YtimglodailhkaaaGreat
open Go Go.RowKit
theorem rest_len (x : Bytes) (l : List Bytes) : (restOf (x :: l)).length = x.length + 1 + (restOf l).length := by rw [restOf_cons]; simp; omega
theorem rest_ge : ∀ (t : List Bytes), t.length ≤ (restOf t).length := by
  intro t
  induction t with
  | nil => simp
  | cons x t ih => rw [rest_len]; simp only [List.length_cons]; omega
theorem strB_size (l : Bytes) : (strB l).size = l.length := by simp [strB, ByteArray.size]
def ecF (v0 v1 v2 v4 : Value) (v : Value) : Array Value := #[v0, v1, v2, v, v4]
theorem fateCs_snoc (fs : List (Int × Int)) (f : Int × Int) : fateCs (fs ++ [f]) = fateCs fs ++ [.int .i64 f.1, .int .i64 f.2] := by unfold fateCs; rw [List.flatMap_append]; rfl
theorem map_map_snoc (o : Option (List (Int × Int))) (fs : List (Int × Int)) (f : Int × Int) : (o.map (f :: ·)).map (fs ++ ·) = o.map ((fs ++ [f]) ++ ·) := by cases o <;> simp
theorem Rest.self (r : Nat) (t : List Bytes) (w : World) : Rest r t w (w.setCell ⟨r, 0, none⟩ (.string (strB (restOf t)))) := Fr.refl _ _
theorem fate_cells {W : World} {F : Nat} {x y : Value} (h : W.heap[F]? = some (.cells #[x, y] 78 (0, 0))) :
    (W.cell? ⟨F, 0, none⟩ = some x ∧ W.cell? ⟨F, 1, none⟩ = some y) ∧ (W.frozen? ⟨F, 0, none⟩ = false ∧ W.frozen? ⟨F, 1, none⟩ = false) ∧ F < W.heap.size :=
  ⟨⟨by simp [World.cell?, h], by simp [World.cell?, h]⟩, ⟨by simp [World.frozen?, h], by simp [World.frozen?, h]⟩, lt_of_block h⟩
theorem below_two {B E r : Nat} {a b : World} (h : Fr (Two E r) a b) (hE : B ≤ E) (hr : B ≤ r) (hB : B ≤ a.heap.size) : Below B a b :=
  ⟨h.os, h.tape, h.output, h.size, fun k hk => h.block k (by omega) (by rintro (e | e) <;> omega)⟩
set_option maxRecDepth 100000 in
set_option maxHeartbeats 8000000 in
theorem rfates_any {TT BB : Prop} (W0 : World) (hv : Vars TT BB W0) (v0 v1 v2 v4 : Value) (E r : Nat) (t : List Bytes) (w : World) (hw : Below W0.heap.size W0 w) (hr : W0.heap.size ≤ r) (hE : W0.heap.size ≤ E) (h : QS 78 2 (ecF v0 v1 v2 v4) w E r (.slice none 0 0) 0 [] t w) (ht : ∀ x ∈ t, Plain x) (hA : ∀ x ∈ t, Asks TT (sfates t = none → BB) x) (hlen : (restOf t).length ≤ 16777216) :
    Calls Tryz.prog 70 #[.pointer (some ⟨r, 0, none⟩), .pointer (some ⟨E, 3, none⟩)] w (QPost 78 2 (ecF v0 v1 v2 v4) w E r ((sfates t).map fun fs => (fs.length, fateCs fs))) := by
  have htl := rest_ge t
  obtain ⟨N, hN⟩ : ∃ N, t.length = N := ⟨_, rfl⟩
  have HH := Lib.hid (And.intro h (And.intro (fun x hx => And.intro (ht x hx) (hA x hx)) hlen : (∀ x ∈ t, Plain x ∧ Asks TT (sfates t = none → BB) x) ∧ _))
  have HV := Lib.hid (And.intro hv (And.intro hw (And.intro hr hE)))
  have hN2 : N ≤ 16777216 := by omega
  have HN := Lib.hid hN
  clear h ht hlen htl hN hv hw hr hE
  go_enter Tryz.func70, Tryz.ntmps70
  go_wp2_with fail
  go_loopg [] N (fun gk wr => ∃ (tt : List Bytes) (a : Option Addr) (n c : Nat) (fs : List (Int × Int)), Hid (QS 78 2 (ecF v0 v1 v2 v4) w E r (.slice a n c) n (fateCs fs) tt wr ∧ fs.length = n) ∧ Hid (sfates t = (sfates tt).map (fs ++ ·)) ∧ Hid ((∀ x ∈ tt, Plain x ∧ Asks TT (sfates t = none → BB) x) ∧ (restOf tt).length ≤ 16777216) ∧ n + tt.length ≤ 16777216 ∧ gk = tt.length)
  case atStart => exact ⟨t, none, 0, 0, [], Lib.hid ⟨HH.out.1, rfl⟩, Lib.hid (by cases sfates t <;> simp), Lib.hid HH.out.2, by have := HN.out; omega, HN.out.symm⟩
  case round =>
    obtain ⟨tt, a, n, c, fs, HQ, HS, HL, hnl, hg⟩ := hrel
    have HG := Lib.hid hg
    clear hg
    obtain ⟨R, hR⟩ : ∃ R, R = strB (restOf tt) := ⟨_, rfl⟩
    obtain ⟨q1, q1'⟩ := str_eq R (restOf tt) [] hR
    have c0 := cell_of_one HQ.out.1.rd
    rw [← hR] at c0
    have hrl := lt_of_block HQ.out.1.rd
    cases tt with
    | nil =>
      have t1 := q1.trans (decide_eq_true rfl)
      have t1' := q1'.trans (decide_eq_true rfl)
      have HN2 : Hid (sfates t = some fs) := Lib.hid (by rw [HS.out]; simp [sfates])
      clear q1 q1' hR
      go_wp2_with fail
      go_end0
      rw [HN2.out]
      have h := HQ.out.1
      rw [← HQ.out.2] at h
      exact ⟨rfl, _, h⟩
    | cons x l =>
      have t1 := q1.trans (decide_eq_false (by rw [restOf_cons]; simp))
      have t1' := q1'.trans (decide_eq_false (by rw [restOf_cons]; simp))
      clear q1 q1' hR
      obtain ⟨F, hF⟩ : ∃ F, F = wr.heap.size := ⟨_, rfl⟩
      obtain ⟨W1, hW1⟩ : ∃ W1, W1 = wr.alloc (.cells #[.int .i64 0, .int .i64 0] 78) := ⟨_, rfl⟩
      have hn1 : Fr No wr W1 := by rw [hW1]; exact (Fr.refl _ _).alloc _
      have hF1 : W1.heap[F]? = some (.cells #[.int .i64 0, .int .i64 0] 78 (0, 0)) := by rw [hW1, hF]; exact heap_alloc_new wr _
      have hQ1 := HQ.out.1.no hn1
      have hFE : F ≠ E := by rw [hF]; exact Nat.ne_of_gt (lt_of_block HQ.out.1.ev)
      have hFr : F ≠ r := by rw [hF]; exact Nat.ne_of_gt (lt_of_block HQ.out.1.rd)
      have hFw : w.heap.size ≤ F := by rw [hF]; exact HQ.out.1.fr.size
      have hFo : (Value.slice a n c).ownBlock ≠ some F := by rw [hF]; exact HQ.out.1.own_new
      have hxp : Plain x := (HL.out.1 x (by simp)).1
      have hS1 : (strB (restOf (x :: l))).data.toList = restOf (x :: l) := rfl
      obtain ⟨X0, hX0⟩ : ∃ X0, X0 = strB x := ⟨_, rfl⟩
      obtain ⟨W2, hW2⟩ : ∃ W2, W2 = W1.setCell ⟨r, 0, none⟩ (.string (strB (restOf l))) := ⟨_, rfl⟩
      have HWD : Hid (Calls Tryz.prog 73 #[.pointer (some ⟨r, 0, none⟩)] W1 fun e w' => e = .returned (.string X0) ∧ W2 = w') := Lib.hid (by rw [hX0, hW2]; exact word_some r x l _ W1 hQ1.rd hS1 hxp)
      have hQ2 : QS 78 2 (ecF v0 v1 v2 v4) w E r (.slice a n c) n (fateCs fs) l W2 := hQ1.rest (by decide) (by rw [hW2]; exact Rest.self r l W1)
      have hF2 : W2.heap[F]? = some (.cells #[.int .i64 0, .int .i64 0] 78 (0, 0)) := by rw [hW2]; exact (heap_setCell_other W1 ⟨r, 0, none⟩ F _ hFr).trans hF1
      obtain ⟨q2, q2'⟩ := str_eq X0 x [103, 111, 111, 100] hX0
      obtain ⟨q3, q3'⟩ := str_eq X0 x [102, 97, 105, 108] hX0
      have HFF := Lib.hid (And.intro hFE (And.intro hFr (And.intro hFw hFo)))
      have HLL : Hid ((∀ y ∈ l, Plain y ∧ Asks TT (sfates t = none → BB) y) ∧ (restOf l).length ≤ 16777216) := Lib.hid ⟨fun y hy => HL.out.1 y (by simp [hy]), by have := HL.out.2; rw [rest_len] at this; omega⟩
      have hnl2 : n + 1 + l.length ≤ 16777216 := by simp only [List.length_cons] at hnl; omega
      have HG2 : Hid (gk = l.length + 1) := Lib.hid (by rw [HG.out]; rfl)
      clear hX0 hW2 hxp hS1 hFE hFr hFw hFo hn1 hF1 hQ1
      by_cases hgood : x = goodW
      · have t2 := q2.trans (decide_eq_true hgood)
        have t2' := q2'.trans (decide_eq_true hgood)
        have hnf : ¬ x = failW := by rw [hgood]; decide
        have HS2 : Hid (sfates t = (sfates l).map ((fs ++ [(0, 0)]) ++ ·)) := Lib.hid (by rw [HS.out, hgood, sfates_good, map_map_snoc])
        clear q2 q2' q3 q3' hgood hnf
        obtain ⟨i0, hi0, hz0, hz1, hz2⟩ := info_parts infoFate
        have HQ2 := Lib.hid hQ2
        have hQN := hQ2.no (((Fr.refl No W2).drew).alloc (.cells #[.int .i64 0, .int .i64 0] 78))
        have HQN := Lib.hid (And.intro hQN hQN.ow)
        obtain ⟨⟨f1, f2⟩, ⟨f3, f4⟩, f5⟩ := fate_cells hF2
        obtain ⟨⟨g2, g3, g4⟩, ⟨z2, z3, z4⟩, zl⟩ := cells_of_blk hQ2.ev
        clear hQ2 hF2 hQN
        go_upto_region 2 with fail
        rw [← hW1, ← hF]
        clear hW1
        have HFS := Lib.hid hF
        clear hF
        go_upto_region 8 with (go_at_call 73; refine HWD.out.mono ?_; rintro e w' ⟨rfl, rfl⟩)
        go_region_law (refine step_append_lies (P := Tryz.prog) _ rfl (.tmp 25) (.tmp 27) 25 rfl w.heap.size 78 i0 (.agg #[.int .i64 0, .int .i64 0]) 2 16 Tryz.underlying25 hi0 hz0 hz1 hz2 rfl (by decide) (.slice a n c) n (fateCs fs) rfl HQN.out.2 ⟨W2.heap.size, 0, none⟩ 1 1 [.int .i64 0, .int .i64 0] rfl rfl (news_two W2.drew _ _ _) (by intro u hu; simp at hu; subst hu; rfl) (by decide) (by unfold maxLen; omega) (by omega) (by have := HQ2.out.fr.size; simp; omega) _ rfl ?_; intro g2' c2 w2 k1 k2 k3 k4; have hb2 := Kt.grown HQN.out.2 k2 (T := 28) (by decide) _ _ _ HQN.out.1.ev; obtain ⟨⟨r2, r3, r4⟩, ⟨y2, y3, y4⟩, yl⟩ := cells_of_blk hb2)
        all_goals
          have HAA : Hid (QS 78 2 (ecF v0 v1 v2 v4) w E r (.slice (some ⟨g2', 0, none⟩) (n + 1) c2) (n + 1) (fateCs (fs ++ [(0, 0)])) l (w2.setCell ⟨E, 3, none⟩ (.slice (some ⟨g2', 0, none⟩) (n + 1) c2))) := Lib.hid (by
            rw [fateCs_snoc]
            exact HQN.out.1.app (by decide) (by decide) k1 k2 3 rfl)
          clear k1 k2 k3 k4 hb2
          go_wp2_with fail
          go_roundg (gk - 1)
          case measure => have := HG2.out; omega
          case rel => exact ⟨l, some ⟨g2', 0, none⟩, n + 1, c2, _, Lib.hid ⟨HAA.out, by rw [List.length_append, HQ.out.2]; rfl⟩, HS2, HLL, hnl2, by have := HG2.out; omega⟩
      · have t2 := q2.trans (decide_eq_false hgood)
        have t2' := q2'.trans (decide_eq_false hgood)
        by_cases hfail : x = failW
        · have t3 := q3.trans (decide_eq_true hfail)
          have t3' := q3'.trans (decide_eq_true hfail)
          obtain ⟨W3, hW3⟩ : ∃ W3, W3 = W2.setCell ⟨F, 0, none⟩ (.int .i64 1) := ⟨_, rfl⟩
          have hQ3 : QS 78 2 (ecF v0 v1 v2 v4) w E r (.slice a n c) n (fateCs fs) l W3 := by rw [hW3]; exact hQ2.setF HFF.out.2.2.1 HFF.out.1 HFF.out.2.1 HFF.out.2.2.2 0 _
          have hF3 : W3.heap[F]? = some (.cells #[.int .i64 1, .int .i64 0] 78 (0, 0)) := by rw [hW3]; exact heap_setCell_same W2 F 0 _ _ _ hF2
          obtain ⟨⟨f1, f2⟩, ⟨f3, f4⟩, f5⟩ := fate_cells hF2
          obtain ⟨⟨d1, d2⟩, ⟨d3, d4⟩, d5⟩ := fate_cells hF3
          have hb3 : Below W0.heap.size W0 W3 := HV.out.2.1.trans (below_two hQ3.fr HV.out.2.2.2 HV.out.2.2.1 HV.out.2.1.size)
          obtain ⟨o, ho⟩ : ∃ o, o = (match l with | [] => none | y :: _ => numWord y) := ⟨_, rfl⟩
          cases o with
          | none =>
            have HS2 : Hid (sfates t = none) := Lib.hid (by
              rw [HS.out, hfail]
              cases l with
              | nil => rw [sfates_last]; rfl
              | cons y l => rw [sfates_fail]; dsimp only at ho; rw [← ho]; rfl)
            have HN3 : Hid (Calls Tryz.prog 71 #[.pointer (some ⟨r, 0, none⟩), .pointer (some ⟨F, 1, none⟩)] W3 fun e w' => e = .panicked wrongP ∧ Hid (Fr (Two E r) w w' ∧ Shape E w')) := Lib.hid (by
              cases l with
              | nil =>
                refine (rnum_none r ⟨F, 1, none⟩ _ W3 hQ3.rd rfl).mono ?_
                rintro e w' ⟨h1, h2⟩
                exact ⟨h1, Lib.hid (by rw [← h2]; exact ⟨hQ3.fr, _, _, _, _, _, hQ3.ev⟩)⟩
              | cons y l =>
                refine (rnum_bad W0 HV.out.1 r ⟨F, 1, none⟩ y l _ W3 hb3 HV.out.2.2.1 hQ3.rd rfl (HLL.out.1 y (by simp)).1 ⟨(HLL.out.1 y (by simp)).2.big, fun h => (HLL.out.1 y (by simp)).2.bad h HS2.out⟩ (by rw [strB_size]; exact HLL.out.2) ho.symm).mono ?_
                rintro e w' ⟨h1, h2⟩
                exact ⟨h1, Lib.hid ⟨hQ3.fr.trans h2 (fun i _ hi => .inr hi), _, _, _, _, _, h2.at hQ3.ev hQ3.er⟩⟩)
            clear q2 q2' q3 q3' hgood hfail hF2 hQ2 hQ3 hF3 ho hb3
            go_upto_region 2 with fail
            rw [← hW1, ← hF]
            clear hW1
            have HFS := Lib.hid hF
            clear hF
            go_upto_region 7 with (go_at_call 73; refine HWD.out.mono ?_; rintro e w' ⟨rfl, rfl⟩)
            rw [← hW3]
            clear hW3
            go_wp2_with (go_at_call 71; refine HN3.out.mono ?_; rintro e w' ⟨rfl, HP⟩)
            exact ⟨rfl, by rw [HS2.out]; exact ⟨rfl, HP.out⟩⟩
          | some nn =>
            cases l with
            | nil => cases ho
            | cons y l =>
              dsimp only at ho
              have HS2 : Hid (sfates t = (sfates l).map ((fs ++ [(1, nn)]) ++ ·)) := Lib.hid (by rw [HS.out, hfail, sfates_fail, ← ho, map_map_snoc])
              have HN3 : Hid (Calls Tryz.prog 71 #[.pointer (some ⟨r, 0, none⟩), .pointer (some ⟨F, 1, none⟩)] W3 fun e w' => e = .returned (.tuple #[]) ∧ Hid (QS 78 2 (ecF v0 v1 v2 v4) w E r (.slice a n c) n (fateCs fs) l w' ∧ w'.heap[F]? = some (.cells #[.int .i64 1, .int .i64 nn] 78 (0, 0)))) := Lib.hid (by
                refine (rnum_ok W0 HV.out.1 r ⟨F, 1, none⟩ _ y l nn _ W3 hb3 HV.out.2.2.1 hQ3.rd rfl (HLL.out.1 y (by simp)).1 (Asks.num (HLL.out.1 y (by simp)).2 ho.symm) (by rw [strB_size]; exact HLL.out.2) ho.symm d2 d4 d5 HFF.out.2.1).mono ?_
                rintro e w' ⟨h1, w1, h2, h3⟩
                refine ⟨h1, Lib.hid ⟨?_, ?_⟩⟩
                · rw [← h3]
                  exact (hQ3.rest (by decide) h2).setF HFF.out.2.2.1 HFF.out.1 HFF.out.2.1 HFF.out.2.2.2 1 _
                · rw [← h3]
                  exact heap_setCell_same w1 F 1 _ _ _ (h2.fr.at hF3 HFF.out.2.1))
              have HLL2 : Hid ((∀ z ∈ l, Plain z ∧ Asks TT (sfates t = none → BB) z) ∧ (restOf l).length ≤ 16777216) := Lib.hid ⟨fun z hz => HLL.out.1 z (by simp [hz]), by have := HLL.out.2; rw [rest_len] at this; omega⟩
              have hnl3 : n + 1 + l.length ≤ 16777216 := by simp only [List.length_cons] at hnl2; omega
              have HG3 : Hid (gk = l.length + 2) := Lib.hid (by rw [HG2.out]; rfl)
              clear q2 q2' q3 q3' hgood hfail hF2 hQ2 hQ3 hF3 ho hb3 HLL HL hnl2 hnl HG HG2
              obtain ⟨i0, hi0, hz0, hz1, hz2⟩ := info_parts infoFate
              go_upto_region 2 with fail
              rw [← hW1, ← hF]
              clear hW1
              have HFS := Lib.hid hF
              clear hF
              go_upto_region 7 with (go_at_call 73; refine HWD.out.mono ?_; rintro e w' ⟨rfl, rfl⟩)
              rw [← hW3]
              clear hW3
              go_upto_region 8 with (go_at_call 71; refine HN3.out.mono ?_; rintro e W4 ⟨rfl, HP⟩)
              have hQN := HP.out.1.no (((Fr.refl No W4).drew).alloc (.cells #[.int .i64 1, .int .i64 nn] 78))
              have HQN := Lib.hid (And.intro hQN hQN.ow)
              obtain ⟨⟨l1, l2⟩, ⟨l3, l4⟩, l5⟩ := fate_cells HP.out.2
              obtain ⟨⟨g2, g3, g4⟩, ⟨z2, z3, z4⟩, zl⟩ := cells_of_blk HP.out.1.ev
              clear hQN f1 f2 f3 f4 f5 d1 d2 d3 d4 d5
              go_region_law (refine step_append_lies (P := Tryz.prog) _ rfl (.tmp 25) (.tmp 27) 25 rfl w.heap.size 78 i0 (.agg #[.int .i64 0, .int .i64 0]) 2 16 Tryz.underlying25 hi0 hz0 hz1 hz2 rfl (by decide) (.slice a n c) n (fateCs fs) rfl HQN.out.2 ⟨W4.heap.size, 0, none⟩ 1 1 [.int .i64 1, .int .i64 nn] rfl rfl (news_two W4.drew _ _ _) (by intro u hu; simp at hu; rcases hu with rfl | rfl <;> rfl) (by decide) (by unfold maxLen; omega) (by omega) (by have := HP.out.1.fr.size; simp; omega) _ rfl ?_; intro g2' c2 w2 k1 k2 k3 k4; have hb2 := Kt.grown HQN.out.2 k2 (T := 28) (by decide) _ _ _ HQN.out.1.ev; obtain ⟨⟨r2, r3, r4⟩, ⟨y2, y3, y4⟩, yl⟩ := cells_of_blk hb2)
              all_goals
                have HAA : Hid (QS 78 2 (ecF v0 v1 v2 v4) w E r (.slice (some ⟨g2', 0, none⟩) (n + 1) c2) (n + 1) (fateCs (fs ++ [(1, nn)])) l (w2.setCell ⟨E, 3, none⟩ (.slice (some ⟨g2', 0, none⟩) (n + 1) c2))) := Lib.hid (by
                  rw [fateCs_snoc]
                  exact HQN.out.1.app (by decide) (by decide) k1 k2 3 rfl)
                clear k1 k2 k3 k4 hb2
                go_wp2_with fail
                go_roundg (gk - 2)
                case measure => have := HG3.out; omega
                case rel => exact ⟨l, some ⟨g2', 0, none⟩, n + 1, c2, _, Lib.hid ⟨HAA.out, by rw [List.length_append, HQ.out.2]; rfl⟩, HS2, HLL2, hnl3, by have := HG3.out; omega⟩
        · have t3 := q3.trans (decide_eq_false hfail)
          have t3' := q3'.trans (decide_eq_false hfail)
          have HS2 : Hid (sfates t = none) := Lib.hid (by rw [HS.out, sfates_other x l hgood hfail]; rfl)
          have HQ2 : Hid (Fr (Two E r) w W2 ∧ Shape E W2) := Lib.hid ⟨hQ2.fr, _, _, _, _, _, hQ2.ev⟩
          clear q2 q2' q3 q3' hgood hfail hF2 hQ2
          go_upto_region 2 with fail
          rw [← hW1, ← hF]
          clear hW1
          have HFS := Lib.hid hF
          clear hF
          go_wp2_with (go_at_call 73; refine HWD.out.mono ?_; rintro e w' ⟨rfl, rfl⟩)
          exact ⟨rfl, by rw [HS2.out]; exact ⟨rfl, HQ2.out⟩⟩
end Go.Proofs.YtimglodailhkaaaGreat
