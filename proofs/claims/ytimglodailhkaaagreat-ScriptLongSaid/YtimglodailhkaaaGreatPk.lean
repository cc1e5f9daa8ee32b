/-
  The reader: picks.
-/
import Derived.Test.YtimglodailhkaaaGreatFt
namespace Go.Proofs.YtimglodailhkaaaGreat
open Go Go.RowKit
def ecP (v0 v1 v2 v3 : Value) (v : Value) : Array Value := #[v0, v1, v2, v3, v]
theorem intCs_snoc (fs : List Int) (f : Int) : intCs (fs ++ [f]) = intCs fs ++ [.int .i64 f] := by unfold intCs; rw [List.map_append]; rfl
theorem map_map_snoc2 (o : Option (List Int)) (fs : List Int) (f : Int) : (o.map (f :: ·)).map (fs ++ ·) = o.map ((fs ++ [f]) ++ ·) := by cases o <;> simp
theorem spicks_none (y : Bytes) (l : List Bytes) (h : numWord y = none) : spicks (y :: l) = none := by rw [spicks, h]
theorem spicks_one (y : Bytes) (l : List Bytes) (n : Int) (h : numWord y = some n) : spicks (y :: l) = (spicks l).map (n :: ·) := by rw [spicks, h]
set_option maxRecDepth 100000 in
set_option maxHeartbeats 8000000 in
theorem rpicks_any {TT BB : Prop} (W0 : World) (hv : Vars TT BB W0) (v0 v1 v2 v3 : Value) (E r : Nat) (t : List Bytes) (w : World) (hw : Below W0.heap.size W0 w) (hr : W0.heap.size ≤ r) (hE : W0.heap.size ≤ E) (h : QS 3 1 (ecP v0 v1 v2 v3) w E r (.slice none 0 0) 0 [] t w) (ht : ∀ x ∈ t, Plain x) (hA : ∀ x ∈ t, Asks TT (spicks t = none → BB) x) (hlen : (restOf t).length ≤ 16777216) :
    Calls Tryz.prog 72 #[.pointer (some ⟨r, 0, none⟩), .pointer (some ⟨E, 4, none⟩)] w (QPost 3 1 (ecP v0 v1 v2 v3) w E r ((spicks t).map fun fs => (fs.length, intCs fs))) := by
  have htl := rest_ge t
  obtain ⟨N, hN⟩ : ∃ N, t.length = N := ⟨_, rfl⟩
  have HH := Lib.hid (And.intro h (And.intro (fun x hx => And.intro (ht x hx) (hA x hx)) hlen : (∀ x ∈ t, Plain x ∧ Asks TT (spicks t = none → BB) x) ∧ _))
  have HV := Lib.hid (And.intro hv (And.intro hw (And.intro hr hE)))
  have hN2 : N ≤ 16777216 := by omega
  have HN := Lib.hid hN
  clear h ht hlen htl hN hv hw hr hE
  go_enter Tryz.func72, Tryz.ntmps72
  go_wp2_with fail
  go_loopg [] N (fun gk wr => ∃ (tt : List Bytes) (a : Option Addr) (n c : Nat) (fs : List Int), Hid (QS 3 1 (ecP v0 v1 v2 v3) w E r (.slice a n c) n (intCs fs) tt wr ∧ fs.length = n) ∧ Hid (spicks t = (spicks tt).map (fs ++ ·)) ∧ Hid ((∀ x ∈ tt, Plain x ∧ Asks TT (spicks t = none → BB) x) ∧ (restOf tt).length ≤ 16777216) ∧ n + tt.length ≤ 16777216 ∧ gk = tt.length)
  case atStart => exact ⟨t, none, 0, 0, [], Lib.hid ⟨HH.out.1, rfl⟩, Lib.hid (by cases spicks t <;> simp), Lib.hid HH.out.2, by have := HN.out; omega, HN.out.symm⟩
  case round =>
    obtain ⟨tt, a, n, c, fs, HQ, HS, HL, hnl, hg⟩ := hrel
    have HG := Lib.hid hg
    clear hg
    obtain ⟨R, hR⟩ : ∃ R, R = strB (restOf tt) := ⟨_, rfl⟩
    obtain ⟨q1, q1'⟩ := str_eq R (restOf tt) [] hR
    have c0 := cell_of_one HQ.out.1.rd
    rw [← hR] at c0
    have hrl := lt_of_block HQ.out.1.rd
    cases tt with
    | nil =>
      have t1 := q1.trans (decide_eq_true rfl)
      have t1' := q1'.trans (decide_eq_true rfl)
      have HN2 : Hid (spicks t = some fs) := Lib.hid (by rw [HS.out]; simp [spicks])
      clear q1 q1' hR
      go_wp2_with fail
      go_end0
      rw [HN2.out]
      have h := HQ.out.1
      rw [← HQ.out.2] at h
      exact ⟨rfl, _, h⟩
    | cons y l =>
      have t1 := q1.trans (decide_eq_false (by rw [restOf_cons]; simp))
      have t1' := q1'.trans (decide_eq_false (by rw [restOf_cons]; simp))
      clear q1 q1' hR
      obtain ⟨F, hF⟩ : ∃ F, F = wr.heap.size := ⟨_, rfl⟩
      obtain ⟨W1, hW1⟩ : ∃ W1, W1 = wr.alloc (.cells #[.int .i64 0] 3) := ⟨_, rfl⟩
      have hn1 : Fr No wr W1 := by rw [hW1]; exact (Fr.refl _ _).alloc _
      have hF1 : W1.heap[F]? = some (.cells #[.int .i64 0] 3 (0, 0)) := by rw [hW1, hF]; exact heap_alloc_new wr _
      have hQ1 := HQ.out.1.no hn1
      have hFE : F ≠ E := by rw [hF]; exact Nat.ne_of_gt (lt_of_block HQ.out.1.ev)
      have hFr : F ≠ r := by rw [hF]; exact Nat.ne_of_gt (lt_of_block HQ.out.1.rd)
      have hFw : w.heap.size ≤ F := by rw [hF]; exact HQ.out.1.fr.size
      have hFo : (Value.slice a n c).ownBlock ≠ some F := by rw [hF]; exact HQ.out.1.own_new
      have hyp : Plain y ∧ Asks TT (spicks t = none → BB) y := HL.out.1 y (by simp)
      have hb1 : Below W0.heap.size W0 W1 := HV.out.2.1.trans (below_two hQ1.fr HV.out.2.2.2 HV.out.2.2.1 HV.out.2.1.size)
      have hsz : (strB (restOf (y :: l))).size ≤ 16777216 := by rw [strB_size]; exact HL.out.2
      have d2 := cell_of_one hF1
      have d4 := free_of_one hF1
      have d5 := lt_of_block hF1
      cases ho : numWord y with
      | none =>
        have HS2 : Hid (spicks t = none) := Lib.hid (by rw [HS.out, spicks_none y l ho]; rfl)
        have HN3 : Hid (Calls Tryz.prog 71 #[.pointer (some ⟨r, 0, none⟩), .pointer (some ⟨F, 0, none⟩)] W1 fun e w' => e = .panicked wrongP ∧ Hid (Fr (Two E r) w w' ∧ Shape E w')) := Lib.hid (by
          refine (rnum_bad W0 HV.out.1 r ⟨F, 0, none⟩ y l _ W1 hb1 HV.out.2.2.1 hQ1.rd rfl hyp.1 ⟨hyp.2.big, fun h => hyp.2.bad h HS2.out⟩ hsz ho).mono ?_
          rintro e w' ⟨h1, h2⟩
          exact ⟨h1, Lib.hid ⟨hQ1.fr.trans h2 (fun i _ hi => .inr hi), _, _, _, _, _, h2.at hQ1.ev hQ1.er⟩⟩)
        clear hFE hFr hFw hFo hn1 hF1 hQ1 hyp hb1 hsz ho
        go_upto_region 2 with fail
        rw [← hW1, ← hF]
        clear hW1
        have HFS := Lib.hid hF
        clear hF
        go_wp2_with (go_at_call 71; refine HN3.out.mono ?_; rintro e w' ⟨rfl, HP⟩)
        exact ⟨rfl, by rw [HS2.out]; exact ⟨rfl, HP.out⟩⟩
      | some nn =>
        have HS2 : Hid (spicks t = (spicks l).map ((fs ++ [nn]) ++ ·)) := Lib.hid (by rw [HS.out, spicks_one y l nn ho, map_map_snoc2])
        have HN3 : Hid (Calls Tryz.prog 71 #[.pointer (some ⟨r, 0, none⟩), .pointer (some ⟨F, 0, none⟩)] W1 fun e w' => e = .returned (.tuple #[]) ∧ Hid (QS 3 1 (ecP v0 v1 v2 v3) w E r (.slice a n c) n (intCs fs) l w' ∧ w'.heap[F]? = some (.cells #[.int .i64 nn] 3 (0, 0)))) := Lib.hid (by
          refine (rnum_ok W0 HV.out.1 r ⟨F, 0, none⟩ _ y l nn _ W1 hb1 HV.out.2.2.1 hQ1.rd rfl hyp.1 (Asks.num hyp.2 ho) hsz ho d2 d4 d5 hFr).mono ?_
          rintro e w' ⟨h1, w1, h2, h3⟩
          refine ⟨h1, Lib.hid ⟨?_, ?_⟩⟩
          · rw [← h3]
            exact (hQ1.rest (by decide) h2).setF hFw hFE hFr hFo 0 _
          · rw [← h3]
            exact heap_setCell_same w1 F 0 _ _ _ (h2.fr.at hF1 hFr))
        have HLL2 : Hid ((∀ z ∈ l, Plain z ∧ Asks TT (spicks t = none → BB) z) ∧ (restOf l).length ≤ 16777216) := Lib.hid ⟨fun z hz => HL.out.1 z (by simp [hz]), by have := HL.out.2; rw [rest_len] at this; omega⟩
        have hnl3 : n + 1 + l.length ≤ 16777216 := by simp only [List.length_cons] at hnl; omega
        have HG3 : Hid (gk = l.length + 1) := Lib.hid (by rw [HG.out]; rfl)
        clear hFE hFr hFw hFo hn1 hF1 hQ1 hyp hb1 hsz ho HL hnl HG
        obtain ⟨i0, hi0, hz0, hz1, hz2⟩ := info_parts infoInt
        go_upto_region 2 with fail
        rw [← hW1, ← hF]
        clear hW1
        have HFS := Lib.hid hF
        clear hF
        go_upto_region 3 with (go_at_call 71; refine HN3.out.mono ?_; rintro e W4 ⟨rfl, HP⟩)
        have hQN := HP.out.1.no (((Fr.refl No W4).drew).alloc (.cells #[.int .i64 nn] 3))
        have HQN := Lib.hid (And.intro hQN hQN.ow)
        have l1 := cell_of_one HP.out.2
        have l3 := free_of_one HP.out.2
        have l5 := lt_of_block HP.out.2
        obtain ⟨⟨g2, g3, g4⟩, ⟨z2, z3, z4⟩, zl⟩ := cells_of_blk HP.out.1.ev
        clear hQN d2 d4 d5
        go_region_law (refine step_append_lies (P := Tryz.prog) _ rfl (.tmp 15) (.tmp 17) 26 rfl w.heap.size 3 i0 (.int .i64 0) 1 8 Tryz.underlying26 hi0 hz0 hz1 hz2 rfl (by decide) (.slice a n c) n (intCs fs) rfl HQN.out.2 ⟨W4.heap.size, 0, none⟩ 1 1 [.int .i64 nn] rfl rfl (news_one W4.drew _ _) (by intro u hu; simp at hu; subst hu; rfl) (by decide) (by unfold maxLen; omega) (by omega) (by have := HP.out.1.fr.size; simp; omega) _ rfl ?_; intro g2' c2 w2 k1 k2 k3 k4; have hb2 := Kt.grown HQN.out.2 k2 (T := 28) (by decide) _ _ _ HQN.out.1.ev; obtain ⟨⟨r2, r3, r4⟩, ⟨y2, y3, y4⟩, yl⟩ := cells_of_blk hb2)
        all_goals
          have HAA : Hid (QS 3 1 (ecP v0 v1 v2 v3) w E r (.slice (some ⟨g2', 0, none⟩) (n + 1) c2) (n + 1) (intCs (fs ++ [nn])) l (w2.setCell ⟨E, 4, none⟩ (.slice (some ⟨g2', 0, none⟩) (n + 1) c2))) := Lib.hid (by
            rw [intCs_snoc]
            exact HQN.out.1.app (by decide) (by decide) k1 k2 4 rfl)
          clear k1 k2 k3 k4 hb2
          go_wp2_with fail
          go_roundg (gk - 1)
          case measure => have := HG3.out; omega
          case rel => exact ⟨l, some ⟨g2', 0, none⟩, n + 1, c2, _, Lib.hid ⟨HAA.out, by rw [List.length_append, HQ.out.2]; rfl⟩, HS2, HLL2, hnl3, by have := HG3.out; omega⟩
end Go.Proofs.YtimglodailhkaaaGreat
