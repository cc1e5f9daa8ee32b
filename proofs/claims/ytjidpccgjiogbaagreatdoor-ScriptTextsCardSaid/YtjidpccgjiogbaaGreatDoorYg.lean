/-
  Parts walked.
-/
import Derived.Test.YtjidpccgjiogbaaGreatDoorYf
import Derived.Test.YtjidpccgjiogbaaGreatDoorKz
namespace Go.Proofs.YtjidpccgjiogbaaGreatDoor
open Go Go.RowKit
theorem kindOf_get {w : World} {e : Ev} {k cn : Int} {a1 a2 a3 : Option Addr} {n1 n2 n3 c1 c2 c3 : Nat} (h : EvAt w (.agg #[.int .i64 k, .int .i64 cn, .slice a1 n1 c1, .slice a2 n2 c2, .slice a3 n3 c3]) e) : e.kind = k := by
  obtain ⟨x1, y1, x2, y2, x3, y3, ea, _⟩ := h.form
  simp only [Value.agg.injEq, Array.mk.injEq, List.cons.injEq, Value.int.injEq, true_and] at ea
  exact ea.1.symm
def PartsPost (es : List Ev) (w : World) (e : Ending) (w' : World) : Prop :=
  ∃ v rows vs, e = .returned (.tuple #[v, .int .i64 0]) ∧ PartsOut w' w.heap.size v rows vs ∧ Chain w' w.heap.size w'.heap.size rows.flatten ∧ rows.map (·.map (·.2)) = parts31 es ∧ Fr No w w'
theorem NewAt.named {w : World} {base : Nat} {v : Value} {e : Ev} (h : NewAt w base v e) : ∃ k cn a1 n1 c1 a2 n2 c2 a3 n3 c3, v = .agg #[.int .i64 k, .int .i64 cn, .slice a1 n1 c1, .slice a2 n2 c2, .slice a3 n3 c3] := by
  obtain ⟨v1, v2, v3, rfl, h1, h2, h3⟩ := h.form
  obtain ⟨a1, n1, c1, rfl⟩ := owns_shape h1
  obtain ⟨a2, n2, c2, rfl⟩ := owns_shape h2
  obtain ⟨a3, n3, c3, rfl⟩ := owns_shape h3
  exact ⟨_, _, a1, n1, c1, a2, n2, c2, a3, n3, c3, rfl⟩
set_option maxHeartbeats 8000000 in
set_option maxRecDepth 100000 in
theorem parts_any (a : Option Addr) (c n : Nat) (es : List Ev) (w : World) (hn : es.length = n) (hl : EvsAt w a es) (hs : ∀ e ∈ es, isLong e = false) (hbig : n ≤ 100) :
    Calls Tryz.prog 28 #[.slice a n c] w (PartsPost es w) := by
  have HX := Lib.hid (And.intro hl (And.intro hn hs))
  have hbig2 : ¬ (65536 : Int) < (n : Int) := by omega
  clear hl hn hs
  go_enter Tryz.func28, Tryz.ntmps28
  go_wp2_with fail
  go_loopg [4, 6, 7, 14] n (fun g s4 _ _ s14 wr => ∃ (i N M G cp : Nat) (ac : Option Addr) (nc cc : Nat) (done : List (List PV)) (vs : List Value) (lim : Nat) (cur : List PV), s4 = .slice (some ⟨G, 0, none⟩) N cp ∧ s14 = .int .i64 i ∧ i ≤ n ∧ N ≤ i + 1 ∧ nc ≤ i ∧ N = M + 1 ∧
    Hid (PartsSt wr w.heap.size (.slice (some ⟨G, 0, none⟩) N cp) done vs (.slice ac nc cc) lim cur ∧ M = done.length ∧ nc = cur.length) ∧ Hid (parts31 es = done.map (·.map (·.2)) ++ glue (cur.map (·.2)) (parts31 (es.drop i))) ∧ Hid (Fr No w wr) ∧ g + i = n)
  case atStart =>
    refine ⟨0, 1, 0, w.heap.size, 1, none, 0, 0, [], [], w.heap.size, [], rfl, rfl, by omega, by omega, by omega, rfl, Lib.hid ⟨⟨rfl, ?_, fun i h _ => absurd h (Nat.not_lt_zero _), World.ownsRow_nil _ _ _ _, Nat.le_refl _, by simp, by simp [Chain]⟩, rfl, rfl⟩, Lib.hid (by simp [glue_nil]), Lib.hid ((Fr.refl _ _).alloc _), by omega⟩
    exact World.ownsRow_lit w #[.slice none 0 0] 1 (Nat.le_refl _) (by decide) rfl
  case round =>
    obtain ⟨i, N, M, G, cp, ac, nc, cc, done, vs, lim, cur, rfl, rfl, hi, hNi, hnc, hNM, HP, HQ, HF, hg⟩ := hrel
    have HG := Lib.hid hg
    clear hg
    by_cases hlt : i < n
    · have hlti : (i : Int) < (n : Int) := by omega
      have l1 : i < es.length := by rw [HX.out.2.1]; exact hlt
      obtain ⟨b9, off, k, cn, a1, n1, c1, a2, n2, c2, a3, n3, c3, rfl, hb9, ⟨p0, p1, p2, p3, p4⟩, hev, hke, _, _⟩ := (HX.out.1.no HF.out).get i l1
      obtain ⟨e, he⟩ : ∃ e, e = es[i] := ⟨_, rfl⟩
      rw [← he] at hev hke
      have hdr : es.drop i = e :: es.drop (i + 1) := by rw [he]; exact List.drop_eq_getElem_cons l1
      have hel : isLong e = false := by rw [he]; exact HX.out.2.2 _ (List.getElem_mem l1)
      obtain ⟨W2, hW2⟩ : ∃ W2, W2 = wr.alloc (.cells #[.int .i64 k, .int .i64 cn, .slice a1 n1 c1, .slice a2 n2 c2, .slice a3 n3 c3] 27) := ⟨_, rfl⟩
      obtain ⟨E, hE⟩ : ∃ E, E = wr.heap.size := ⟨_, rfl⟩
      have hE2 : W2.heap[E]? = some (.cells #[.int .i64 k, .int .i64 cn, .slice a1 n1 c1, .slice a2 n2 c2, .slice a3 n3 c3] 27 (0, 0)) := by rw [hW2, hE]; exact heap_alloc_new wr _
      have hn2 : Fr No wr W2 := by rw [hW2]; exact (Fr.refl _ _).alloc _
      obtain ⟨⟨q0, q1, q2, q3, q4⟩, _⟩ := res_cells hE2
      have hEl := lt_of_block hE2
      have HP2 := Lib.hid (And.intro (HP.out.1.no hn2) HP.out.2)
      have HF2 := Lib.hid (HF.out.trans_same hn2)
      have HEV := Lib.hid (hev.no hn2)
      have HWE2 := Lib.hid (And.intro hE hW2)
      by_cases hk : k = 5
      · have hkb : (k == 5) = true := by simpa using hk
        have hkd : decide (k = 5) = true := decide_eq_true hk
        have HQ2 : Hid (parts31 es = (done ++ [cur]).map (·.map (·.2)) ++ glue (([] : List PV).map (·.2)) (parts31 (es.drop (i + 1)))) := Lib.hid (by
          rw [HQ.out, hdr, glue_crash _ e _ (by rw [hke]; exact hk)]
          simp)
        obtain ⟨i0, hi0, hz0, hz1, hz2⟩ := info_parts infoPs
        clear hk hE hW2 hE2 hn2 hev hke he hdr
        go_upto_region 7 with fail
        rw [← HWE2.out.1, ← HWE2.out.2]
        go_wp2_with (at_builtin; refine wpList_append_any (P := Tryz.prog) rfl _ _ 62 rfl w.heap.size 44 i0 (.slice none 0 0) 1 24 Tryz.underlying62 hi0 hz0 hz1 hz2 rfl (by decide) (.slice (some ⟨G, 0, none⟩) N cp) N (vs ++ [.slice ac nc cc]) rfl (by have h := HP2.out.1.out; rw [← HP2.out.2.1, ← hNM] at h; exact (Kt.ofFr ((Fr.refl No W2).alloc _)).owns h) (some ⟨W2.heap.size, 0, none⟩) 1 1 [.slice none 0 0] rfl rfl (Row.front (ds := []) (Row.new (heap_alloc_new W2 _))) (by intro u hu; simp at hu; subst hu; rfl) (by unfold maxLen; omega) (by omega) (by have := HF2.out.size; simp; omega) ?_; intro v3 w3 k1 k2)
        have h3 := (HP2.out.1.no ((Fr.refl No W2).alloc (.cells #[.slice none 0 0] 44)))
        have hNd : N + 1 = done.length + 1 + 1 := by rw [hNM, HP2.out.2.1]
        rw [hNd] at k1
        have h4 := h3.crash k1 k2
        have hf3 : Fr No w w3 := (HF2.out.alloc (.cells #[.slice none 0 0] 44)).grown k2 (fun r e hr => by have := (World.ownsRow.lt h3.out r e).1; omega)
        obtain ⟨g3, cp3, rfl⟩ : ∃ g3 cp3, v3 = .slice (some ⟨g3, 0, none⟩) (N + 1) cp3 := by
          rcases k1.2 with ⟨_, h'⟩ | ⟨g', cap', cur', h', _⟩
          · omega
          · exact ⟨g', cap', by rw [h', ← hNd]⟩
        go_roundg (gk - 1)
        case measure => have := HG.out; omega
        case rel =>
          refine ⟨i + 1, N + 1, N, g3, cp3, none, 0, 0, _, _, _, [], rfl, by go_num, by omega, by omega, by omega, rfl, Lib.hid ⟨h4, ?_, rfl⟩, HQ2, Lib.hid hf3, by have := HG.out; omega⟩
          rw [List.length_append, ← HP2.out.2.1]
          exact hNM
      · have hkb : (k == 5) = false := by simpa using hk
        have hkd : decide (k = 5) = false := decide_eq_false hk
        have HQ2 : Hid (∀ ve : Value, parts31 es = done.map (·.map (·.2)) ++ glue ((cur ++ [(ve, e)]).map (·.2)) (parts31 (es.drop (i + 1)))) := Lib.hid (fun ve => by
          rw [HQ.out, hdr, glue_one _ e _ (by rw [hke]; exact hk)]
          simp)
        have hM0 : (0 : Int) ≤ (M : Int) := by omega
        have hMN : (M : Int) < (N : Int) := by omega
        have hwN : IntKind.i64.wrap ((N : Int) - 1) = (M : Int) := by rw [show (N : Int) - 1 = (M : Int) by omega]; exact IntWalk.i64_in _ (by omega)
        have HOWN : Hid (W2.ownsRow w.heap.size 44 1 (.slice (some ⟨G, 0, none⟩) N cp) N (vs ++ [.slice ac nc cc])) := Lib.hid (by
          have h := HP2.out.1.out
          rw [← HP2.out.2.1, ← hNM] at h
          exact h)
        have HCL : Hid (∀ wx, Fr No W2 wx → wx.heap[E]? = some (.cells #[.int .i64 k, .int .i64 cn, .slice a1 n1 c1, .slice a2 n2 c2, .slice a3 n3 c3] 27 (0, 0)) ∧ wx.cell? ⟨G, M, none⟩ = some (.slice ac nc cc)) := Lib.hid (fun wx hx => by
          refine ⟨hx.at hE2 (fun h => h), ?_⟩
          have h := ((Kt.ofFr hx).owns HOWN.out).cellAt M (by omega)
          rw [h, HP2.out.2.1, ← HP2.out.1.len]
          simp)
        have HGF : Hid (∀ (wx : World), wx.ownsRow w.heap.size 44 1 (.slice (some ⟨G, 0, none⟩) N cp) N (vs ++ [.slice ac nc cc]) → wx.frozen? ⟨G, M, none⟩ = false ∧ wx.cell? ⟨G, M, none⟩ = some (.slice ac nc cc) ∧ G < wx.heap.size) := Lib.hid (fun wx h => by
          refine ⟨h.frozenAt M, ?_, (World.ownsRow.lt h G rfl).2⟩
          rw [h.cellAt M (by omega), HP2.out.2.1, ← HP2.out.1.len]
          simp)
        have HCP := Lib.hid (fun wx (hx : Fr No W2 wx) => scopied_any _ e wx (HEV.out.no hx) hel)
        obtain ⟨i0, hi0, hz0, hz1, hz2⟩ := info_parts infoEv
        have HNM := Lib.hid hNM
        clear hk hE hW2 hE2 hn2 hev hke he hdr hNM
        go_upto_region 10 with fail
        rw [← HWE2.out.1, ← HWE2.out.2]
        have HSS : Hid (∀ wx, Fr No W2 wx → (wx.cell? ⟨G, M, none⟩ = some (.slice ac nc cc) ∧ wx.cell? ⟨E, 0, none⟩ = some (.int .i64 k) ∧ wx.cell? ⟨E, 1, none⟩ = some (.int .i64 cn) ∧ wx.cell? ⟨E, 2, none⟩ = some (.slice a1 n1 c1) ∧ wx.cell? ⟨E, 3, none⟩ = some (.slice a2 n2 c2) ∧ wx.cell? ⟨E, 4, none⟩ = some (.slice a3 n3 c3))) := Lib.hid (fun wx hx => ⟨(HCL.out wx hx).2, (res_cells (HCL.out wx hx).1).1⟩)
        have hsA := HSS.out _ (Fr.refl No W2).drew
        refine Heldz.start 10 #[false, false, false, false, false, false, false, false, false, false] (z := [8, 9]) (S := (fun w1 => w1.cell? ⟨G, M, none⟩ = some (.slice ac nc cc) ∧ w1.cell? ⟨E, 0, none⟩ = some (.int .i64 k) ∧ w1.cell? ⟨E, 1, none⟩ = some (.int .i64 cn) ∧ w1.cell? ⟨E, 2, none⟩ = some (.slice a1 n1 c1) ∧ w1.cell? ⟨E, 3, none⟩ = some (.slice a2 n2 c2) ∧ w1.cell? ⟨E, 4, none⟩ = some (.slice a3 n3 c3))) (by kernel_rfl) (by kernel_rfl) (by kernel_rfl) ?_
        refine Heldz.take 0 #[true, false, false, false, false, false, false, false, false, false] (v := ?v0x1) (by kernel_rfl) (nth_l rfl) (by kernel_rfl) (by kernel_rfl) (by kernel_rfl) (by kernel_rfl) ?hQ0x1 ?hy0x1 ?hS0x1 ?rest0x1
        case hQ0x1 => exact fun _ _ _ h => h
        case hy0x1 =>
          refine Or.inl ⟨by rfl, fun w1 hw1 => ?_⟩
          dsimp only at hw1
          skip
          go_simp
          try with_reducible rfl
        case hS0x1 => exact hsA
        try simp only [Act.put, List.setIfInBounds_toArray, List.set_cons_zero, List.set_cons_succ]
        refine Heldz.take 1 #[true, true, false, false, false, false, false, false, false, false] (v := ?v1x2) (by kernel_rfl) (nth_l rfl) (by kernel_rfl) (by kernel_rfl) (by kernel_rfl) (by kernel_rfl) ?hQ1x2 ?hy1x2 ?hS1x2 ?rest1x2
        case hQ1x2 => exact fun _ _ _ h => h
        case hy1x2 =>
          refine Or.inl ⟨by rfl, fun w1 hw1 => ?_⟩
          dsimp only at hw1
          skip
          go_simp
          try with_reducible rfl
        case hS1x2 => exact hsA
        try simp only [Act.put, List.setIfInBounds_toArray, List.set_cons_zero, List.set_cons_succ]
        refine Heldz.take 2 #[true, true, true, false, false, false, false, false, false, false] (v := ?v2x3) (by kernel_rfl) (nth_l rfl) (by kernel_rfl) (by kernel_rfl) (by kernel_rfl) (by kernel_rfl) ?hQ2x3 ?hy2x3 ?hS2x3 ?rest2x3
        case hQ2x3 => exact fun _ _ _ h => h
        case hy2x3 =>
          refine Or.inl ⟨by rfl, fun w1 hw1 => ?_⟩
          dsimp only at hw1
          skip
          go_simp
          try with_reducible rfl
        case hS2x3 => exact hsA
        try simp only [Act.put, List.setIfInBounds_toArray, List.set_cons_zero, List.set_cons_succ]
        refine Heldz.take 3 #[true, true, true, true, false, false, false, false, false, false] (v := ?v3x4) (by kernel_rfl) (nth_l rfl) (by kernel_rfl) (by kernel_rfl) (by kernel_rfl) (by kernel_rfl) ?hQ3x4 ?hy3x4 ?hS3x4 ?rest3x4
        case hQ3x4 => exact fun _ _ _ h => h
        case hy3x4 =>
          refine Or.inl ⟨by rfl, fun w1 hw1 => ?_⟩
          dsimp only at hw1
          skip
          go_simp
          try with_reducible rfl
        case hS3x4 => exact hsA
        try simp only [Act.put, List.setIfInBounds_toArray, List.set_cons_zero, List.set_cons_succ]
        refine Heldz.take 4 #[true, true, true, true, true, false, false, false, false, false] (v := ?v4x5) (by kernel_rfl) (nth_l rfl) (by kernel_rfl) (by kernel_rfl) (by kernel_rfl) (by kernel_rfl) ?hQ4x5 ?hy4x5 ?hS4x5 ?rest4x5
        case hQ4x5 => exact fun _ _ _ h => h
        case hy4x5 =>
          refine Or.inl ⟨by rfl, fun w1 hw1 => ?_⟩
          dsimp only at hw1
          skip
          go_simp
          try with_reducible rfl
        case hS4x5 => exact hsA
        try simp only [Act.put, List.setIfInBounds_toArray, List.set_cons_zero, List.set_cons_succ]
        refine Heldz.one 5 #[true, true, true, true, true, true, false, false, false, false] (by kernel_rfl) (nth_l rfl) (by kernel_rfl) (fun KK hKK => ?_)
        go_simp
        refine (HCP.out _ (Fr.refl No W2).drew).mono ?_
        rintro en w3 ⟨ve, rfl, hne, hf3⟩
        obtain ⟨kk, cc', x1, m1, y1, x2, m2, y2, x3, m3, y3, rfl⟩ := hne.named
        dsimp only
        have H3 := Lib.hid (And.intro hne ((Fr.refl No W2).drew.trans_same hf3))
        have hsB := HSS.out _ H3.out.2
        clear hne hf3
        refine hKK.out _ _ (fun _ => hsB) ?_
        clear hKK KK
        try simp only [Act.put, List.setIfInBounds_toArray, List.set_cons_zero, List.set_cons_succ]
        refine Heldz.one 6 #[true, true, true, true, true, true, true, false, false, false] (by kernel_rfl) (nth_l rfl) (by kernel_rfl) (fun KK hKK => ?_)
        go_simp
        obtain ⟨W4, hW4⟩ : ∃ W4, W4 = w3.alloc (.cells #[.int .i64 kk, .int .i64 cc', .slice x1 m1 y1, .slice x2 m2 y2, .slice x3 m3 y3] 27) := ⟨_, rfl⟩
        obtain ⟨g4, hg4⟩ : ∃ g4, g4 = w3.heap.size := ⟨_, rfl⟩
        rw [← hW4, ← hg4]
        have hn4 : Fr No w3 W4 := by rw [hW4]; exact (Fr.refl _ _).alloc _
        have HRW : Hid (Row W4 g4 [.int .i64 kk, .int .i64 cc', .slice x1 m1 y1, .slice x2 m2 y2, .slice x3 m3 y3]) := Lib.hid (Row.new (by rw [hW4, hg4]; exact heap_alloc_new w3 _))
        have HN4 := Lib.hid hn4
        have hsB := HSS.out _ (H3.out.2.trans_same hn4)
        clear hW4 hg4 hn4
        refine hKK.out _ _ (fun _ => hsB) ?_
        clear hKK KK
        try simp only [Act.put, List.setIfInBounds_toArray, List.set_cons_zero, List.set_cons_succ]
        refine Heldz.one 7 #[true, true, true, true, true, true, true, true, false, false] (by kernel_rfl) (nth_l rfl) (by kernel_rfl) (fun KK hKK => ?_)
        refine step_append_lies (P := Tryz.prog) _ rfl (.tmp 32) (.tmp 35) 44 rfl lim 27 i0 (.agg #[.int .i64 0, .int .i64 0, .slice none 0 0, .slice none 0 0, .slice none 0 0]) 5 88 Tryz.underlying44 hi0 hz0 hz1 hz2 rfl (by decide) (.slice ac nc cc) nc (rowCells cur) rfl (by have h := HP2.out.1.now; rw [← HP2.out.2.2] at h; exact (Kt.ofFr (H3.out.2.trans_same HN4.out)).owns h) ⟨g4, 0, none⟩ 1 1 [.int .i64 kk, .int .i64 cc', .slice x1 m1 y1, .slice x2 m2 y2, .slice x3 m3 y3] rfl rfl HRW.out.add (by intro u hu; simp at hu; rcases hu with rfl | rfl | rfl | rfl | rfl <;> rfl) (by decide) (by unfold maxLen; omega) (by omega) (Nat.le_trans HP2.out.1.hi (H3.out.2.trans_same HN4.out).size) _ rfl ?_
        intro g5 cap5 w5 k1 k2 k3 k4
        obtain ⟨W5, hW5⟩ : ∃ W5, W5 = w5 := ⟨_, rfl⟩
        have HST : Hid (PartsSt (w5.setCell ⟨G, M, none⟩ (.slice (some ⟨g5, 0, none⟩) (nc + 1) cap5)) w.heap.size (.slice (some ⟨G, 0, none⟩) N cp) done vs (.slice (some ⟨g5, 0, none⟩) (nc + 1) cap5) lim (cur ++ [(.agg #[.int .i64 kk, .int .i64 cc', .slice x1 m1 y1, .slice x2 m2 y2, .slice x3 m3 y3], e)])) := Lib.hid (by
          have hst := HP2.out.1
          have hM := HP2.out.2.1
          have hNd : N = done.length + 1 := by rw [HNM.out, hM]
          rw [hNd] at hst ⊢
          rw [hM]
          have hnn : NewIn W4 W2.heap.size W4.heap.size (.agg #[.int .i64 kk, .int .i64 cc', .slice x1 m1 y1, .slice x2 m2 y2, .slice x3 m3 y3]) e := ((NewIn.of H3.out.1).kt (Kt3.ofFr HN4.out)).mono HN4.out.size
          have k1' := k1
          rw [HP2.out.2.2] at k1' ⊢
          exact hst.one (H3.out.2.trans_same HN4.out) hnn k1' k2)
        have HF5 : Hid (Fr No w w5) := Lib.hid ((HF2.out.trans_same (H3.out.2.trans_same HN4.out)).grown k2 (fun r e9 hr => by
          have x1 := (World.ownsRow.lt HP2.out.1.now r e9).1
          have x2 := HP2.out.1.lo
          exact absurd hr (by omega)))
        have hown5 := (Kt.grown ((Kt.ofFr (H3.out.2.trans_same HN4.out)).owns HP2.out.1.now) k2 (T := 44) (by decide)).owns ((Kt.ofFr (H3.out.2.trans_same HN4.out)).owns HOWN.out)
        obtain ⟨gf, gc, gl⟩ := HGF.out _ hown5
        have hE5 := (k2.block E (Nat.lt_of_lt_of_le (lt_of_block (HCL.out _ H3.out.2).1) HN4.out.size) (fun e9 => by
          have x1 := (World.ownsRow.lt HP.out.1.now E e9.symm).2
          have x2 := HWE2.out.1
          omega)).trans (HCL.out _ (H3.out.2.trans_same HN4.out)).1
        have hsB := And.intro gc (res_cells hE5).1
        clear k1 k2 k3 k4 hown5 hW5 hE5
        refine hKK.out _ _ (fun _ => hsB) ?_
        clear hKK KK
        try simp only [Act.put, List.setIfInBounds_toArray, List.set_cons_zero, List.set_cons_succ]
        refine Heldz.one 8 #[true, true, true, true, true, true, true, true, true, false] (by kernel_rfl) (nth_l rfl) (by kernel_rfl) (fun KK hKK => ?_)
        go_simp
        refine hKK.out _ _ (fun h => absurd (by decide) h) ?_
        clear hKK KK
        try simp only [Act.put, List.setIfInBounds_toArray, List.set_cons_zero, List.set_cons_succ]
        refine Heldz.one 9 #[true, true, true, true, true, true, true, true, true, true] (by kernel_rfl) (nth_l rfl) (by kernel_rfl) (fun KK hKK => ?_)
        go_simp
        refine hKK.out _ _ (fun h => absurd (by decide) h) ?_
        clear hKK KK
        try simp only [Act.put, List.setIfInBounds_toArray, List.set_cons_zero, List.set_cons_succ]
        refine Heldz.done _ (by kernel_rfl) ?_
        go_wp2_with fail
        go_roundg (gk - 1)
        case measure => have := HG.out; omega
        case rel =>
          refine ⟨i + 1, N, M, G, cp, some ⟨g5, 0, none⟩, nc + 1, cap5, done, vs, lim, _, rfl, by go_num, by omega, by omega, by omega, HNM.out, Lib.hid ⟨HST.out, HP2.out.2.1, ?_⟩, Lib.hid (HQ2.out _), Lib.hid ?_, by have := HG.out; omega⟩
          · rw [List.length_append, HP2.out.2.2]; rfl
          · exact HF5.out.setCell _ _ (fun hlt => absurd hlt (by
              have x1 := (World.ownsRow.lt HP2.out.1.out G rfl).1
              show ¬ G < w.heap.size
              omega))
    · have hlti : ¬ (i : Int) < (n : Int) := by omega
      obtain rfl : i = n := by omega
      have HNM := Lib.hid hNM
      clear hNM
      have hd := HP.out.1
      have HD : Hid (PartsOut wr w.heap.size (.slice (some ⟨G, 0, none⟩) N cp) (done ++ [cur]) (vs ++ [.slice ac nc cc]) ∧ Chain wr w.heap.size wr.heap.size (done ++ [cur]).flatten) := Lib.hid hd.done
      have HE : Hid ((done ++ [cur]).map (·.map (·.2)) = parts31 es) := Lib.hid (by
        rw [HQ.out, List.drop_eq_nil_of_le (by rw [HX.out.2.1]; omega)]
        simp [parts31, glue])
      clear hd
      go_wp2_with fail
      go_ret2
      exact ⟨_, _, _, rfl, HD.out.1, HD.out.2, HE.out, HF.out⟩
end Go.Proofs.YtjidpccgjiogbaaGreatDoor
