/-
  ScriptLong walked: it is true.
-/
import Derived.Test.YtimglodailhkaaaGreatZr
namespace Go.Proofs.YtimglodailhkaaaGreat
open Go Go.RowKit
set_option maxRecDepth 100000 in
set_option maxHeartbeats 16000000 in
theorem scriptLong_any (w : World) (m : Int) (hm : w.cell? ⟨0, 0, none⟩ = some (.int .i64 m)) :
    Calls Tryz.prog 3 #[] w fun e w' => e = .returned (.bool true) ∧ Fr No w w' := by
  have h0 : 0 < w.heap.size := cell_lt hm
  have HM := Lib.hid (fun (wx : World) (hx : Fr No w wx) => ((hx.cell (p := ⟨0, 0, none⟩) h0 (fun h => h)).trans hm : wx.cell? ⟨0, 0, none⟩ = some (.int .i64 m)))
  have HWK := Lib.hid (fun wx (hx : Fr No w wx) => works_any (TT := False) (BB := False) wx ⟨fun h => h.elim, fun h => h.elim, fun h => h.elim⟩ m (HM.out wx hx))
  clear hm h0
  go_enter Tryz.func3, Tryz.ntmps3
  obtain ⟨Z, hZ, hmk⟩ := make_evs
  have HZ := Lib.hid hZ
  have hmk1 := hmk w
  clear hZ hmk
  obtain ⟨B, hB⟩ : ∃ B, B = w.heap.size := ⟨_, rfl⟩
  obtain ⟨W1, hW1⟩ : ∃ W1, W1 = w.alloc (.cells Z 28) := ⟨_, rfl⟩
  rw [← hB, ← hW1] at hmk1
  have HB1 : Hid (Conns W1 B 0 ∧ Fr No w W1 ∧ B = w.heap.size) := Lib.hid ⟨⟨Z, by rw [hW1, hB]; exact heap_alloc_new w _, HZ.out, fun j hj => absurd hj (Nat.not_lt_zero _)⟩, by rw [hW1]; exact (Fr.refl _ _).alloc _, hB⟩
  clear HZ hW1 hB
  go_wp2_with fail
  clear hmk1
  go_loopg [2] 65537 (fun g v wr => ∃ i : Nat, v = .int .i64 i ∧ i ≤ 65537 ∧ Hid (Conns wr B i ∧ Fr No w wr) ∧ g + i = 65537)
  case atStart => exact ⟨0, rfl, by omega, Lib.hid ⟨HB1.out.1, HB1.out.2.1⟩, by omega⟩
  case round =>
    obtain ⟨i, rfl, hi, HC, hg⟩ := hrel
    by_cases hlt : i < 65537
    · have hlti : (i : Int) < 65537 := by omega
      obtain ⟨⟨u0, p0⟩, f0, hBl⟩ := HC.out.1.cell (i * 5) (by omega)
      obtain ⟨⟨u1, p1⟩, f1, _⟩ := HC.out.1.cell (i * 5 + 1) (by omega)
      obtain ⟨⟨u2, p2⟩, f2, _⟩ := HC.out.1.cell (i * 5 + 2) (by omega)
      obtain ⟨⟨u3, p3⟩, f3, _⟩ := HC.out.1.cell (i * 5 + 3) (by omega)
      obtain ⟨⟨u4, p4⟩, f4, _⟩ := HC.out.1.cell (i * 5 + 4) (by omega)
      have HST := Lib.hid (HC.out.1.step hlt)
      go_wp2_with fail
      go_roundg (gk - 1)
      case measure => omega
      case rel => exact ⟨i + 1, by go_num, by omega, Lib.hid ⟨HST.out, ((((HC.out.2.setCell _ _ (fun h => absurd h (by have := HB1.out.2.2; simp; omega))).setCell _ _ (fun h => absurd h (by have := HB1.out.2.2; simp; omega))).setCell _ _ (fun h => absurd h (by have := HB1.out.2.2; simp; omega))).setCell _ _ (fun h => absurd h (by have := HB1.out.2.2; simp; omega))).setCell _ _ (fun h => absurd h (by have := HB1.out.2.2; simp; omega))⟩, by omega⟩
    · have hlti : ¬ (i : Int) < 65537 := by omega
      have hi2 : i = 65537 := by omega
      rw [hi2] at HC
      have HI := Lib.hid (And.intro hi (And.intro hg hi2))
      clear hi hg hi2 hlt
      obtain ⟨SA, hSA⟩ : ∃ SA, SA = strB (conns 65536) := ⟨_, rfl⟩
      have hSAz : SA.size = 524288 := by rw [hSA, strB_size, conns_len]
      have HT1 : Hid (Calls Tryz.prog 4 #[.slice (some ⟨B, 0, none⟩) 65536 65537] wr fun e w' => e = .returned (.tuple #[.string SA, .int .i64 65536, .int .i64 0]) ∧ Fr No wr w') := Lib.hid (by
        have h := stextG_any (some ⟨B, 0, none⟩) 65537 65536 (List.replicate 65536 connE) wr List.length_replicate (HC.out.1.evs 65536 (by omega)) (fun e he => by rw [List.eq_of_mem_replicate he]; exact ⟨conn_may, conn_nums, conn_tab _⟩) (Nat.le_refl _)
        rw [conns_text 65536 (Nat.le_refl _)] at h
        rw [hSA]
        exact h)
      have HT2 : Hid (∀ wx, Calls Tryz.prog 4 #[.slice (some ⟨B, 0, none⟩) 65537 65537] wx fun e w' => e = .returned (.tuple #[.string ⟨#[]⟩, .int .i64 0, .int .i64 3]) ∧ wx = w') := Lib.hid (fun wx => text_over _ _ _ wx (by omega))
      have HP1 : Hid (∀ wx, Fr No w wx → Calls Tryz.prog 5 #[.string SA] wx fun e w' => ∃ a c, e = .returned (.tuple #[.slice a 65536 c, .int .i64 65536, .int .i64 0]) ∧ Fr No wx w') := Lib.hid (fun wx hx => parse_conns SA hSA m wx (HM.out wx hx))
      have HP2 : Hid (∀ wx, Calls Tryz.prog 5 #[.string (SA ++ ⟨#[99, 111, 110, 110, 101, 99, 116, 10]⟩)] wx fun e w' => e = .returned (.tuple #[.slice none 0 0, .int .i64 0, .int .i64 3]) ∧ wx = w') := Lib.hid (fun wx => parse_over _ (by rw [hSA]; exact (str_app _ _).trans (by rw [conns_snoc]; rfl)) wx)
      have HPT : Hid (∀ wx, Calls Tryz.prog 8 #[.slice (some ⟨B, 0, none⟩) 65537 65537] wx fun e w' => e = .returned (.tuple #[.slice none 0 0, .int .i64 3]) ∧ wx = w') := Lib.hid (fun wx => parts_over _ _ _ wx (by omega))
      clear hSA
      go_upto_region 7 with (go_at_call 4; refine HT1.out.mono ?_; rintro e w1 ⟨rfl, hf1⟩; have HF1 := Lib.hid (HC.out.2.trans_same hf1); have HG1 := Lib.hid hf1; clear hf1)
      go_upto_region 8 with (go_at_call 4; refine (HT2.out _).mono ?_; rintro e w2 ⟨rfl, rfl⟩)
      go_upto_region 9 with (go_at_call 5; refine (HP1.out _ HF1.out).mono ?_; rintro e w3 ⟨a3, c3, rfl, hf3⟩; have HF3 := Lib.hid (HF1.out.trans_same hf3); have HG3 := Lib.hid (HG1.out.trans_same hf3); clear hf3)
      go_upto_region 10 with (go_at_call 5; refine (HP2.out _).mono ?_; rintro e w4 ⟨rfl, rfl⟩)
      obtain ⟨Z2, hZ2, hmk2⟩ := make_bytes 1048576 (by decide)
      have hmk2' : (Instr.makeSlice 24 (.int .i64 1048576) (.int .i64 1048576)).run Tryz.prog w3 = .ok (.slice (some ⟨w3.heap.size, 0, none⟩) 1048576 1048576) (w3.alloc (.cells Z2 5)) := hmk2 w3
      obtain ⟨B2, hB2⟩ : ∃ B2, B2 = w3.heap.size := ⟨_, rfl⟩
      obtain ⟨W4, hW4⟩ : ∃ W4, W4 = w3.alloc (.cells Z2 5) := ⟨_, rfl⟩
      rw [← hB2, ← hW4] at hmk2'
      have HQ4 : Hid (Zeros W4 B2 1048576 ∧ Fr No w3 W4) := Lib.hid ⟨⟨Z2, by rw [hW4, hB2]; exact heap_alloc_new w3 _, hZ2⟩, by rw [hW4]; exact (Fr.refl _ _).alloc _⟩
      clear hZ2 hmk2 hB2 hW4
      go_upto_region 11 with fail
      clear hmk2'
      obtain ⟨E1, hE1⟩ : ∃ E1, E1 = W4.heap.size := ⟨_, rfl⟩
      obtain ⟨W5, hW5⟩ : ∃ W5, W5 = W4.alloc (.cells #[.int .i64 2, .int .i64 0, .slice (some ⟨B2, 0, none⟩) 1048576 1048576, .slice none 0 0, .slice none 0 0] 28) := ⟨_, rfl⟩
      rw [← hE1, ← hW5]
      have hb5 : W5.heap[E1]? = some (.cells #[.int .i64 2, .int .i64 0, .slice (some ⟨B2, 0, none⟩) 1048576 1048576, .slice none 0 0, .slice none 0 0] 28 (0, 0)) := by rw [hW5, hE1]; exact heap_alloc_new W4 _
      have hf45 : Fr No W4 W5 := by rw [hW5]; exact (Fr.refl _ _).alloc _
      have HQ5 := Lib.hid (And.intro hb5 (And.intro (HQ4.out.1.fr hf45) (HF3.out.trans_same (HQ4.out.2.trans_same hf45))))
      obtain ⟨⟨p0, p1, p2, p3, p4⟩, _⟩ := res_cells hb5
      obtain ⟨SB, hSB⟩ : ∃ SB, SB = strB (line31 (bigE 1048576)) := ⟨_, rfl⟩
      have hSBz : SB.size = 2097159 := by rw [hSB, strB_size, big_len _ (by decide)]
      have HLN : Hid (Calls Tryz.prog 6 #[.agg #[.int .i64 2, .int .i64 0, .slice (some ⟨B2, 0, none⟩) 1048576 1048576, .slice none 0 0, .slice none 0 0]] W5 fun e w' => e = .returned (.tuple #[.string SB, .int .i64 0]) ∧ Fr No W5 w') := Lib.hid (by
        have h := sline_any _ (bigE 1048576) W5 (HQ5.out.2.1.ev) (big_small _ (by decide)) (big_nums _) (big_tab _ _)
        rw [big_may, if_pos (by decide), if_pos (by decide), ← hSB] at h
        exact h)
      have HRD : Hid (∀ wx, Fr No w wx → Calls Tryz.prog 7 #[.string SB] wx fun e w' => ∃ a1 c1 a2 c2 a3 c3, e = .returned (.tuple #[.agg #[.int .i64 2, .int .i64 0, .slice a1 1048576 c1, .slice a2 0 c2, .slice a3 0 c3], .int .i64 0]) ∧ Fr No wx w') := Lib.hid (fun wx hx => read_big 1048576 (by decide) (by decide) SB hSB m wx (HM.out wx hx))
      clear hE1 hW5 hb5 hf45 hSB
      go_upto_region 12 with (go_at_call 6; refine HLN.out.mono ?_; rintro e w6 ⟨rfl, hf6⟩; have HF6 := Lib.hid (And.intro (HQ5.out.2.2.trans_same hf6) hf6); clear hf6)
      go_upto_region 13 with (go_at_call 7; refine (HRD.out _ HF6.out.1).mono ?_; rintro e w7 ⟨r1, d1, r2, d2, r3, d3, rfl, hf7⟩; have HF7 := Lib.hid (And.intro (HF6.out.1.trans_same hf7) (HF6.out.2.trans_same hf7)); clear hf7)
      obtain ⟨E2, hE2⟩ : ∃ E2, E2 = w7.heap.size := ⟨_, rfl⟩
      obtain ⟨W8, hW8⟩ : ∃ W8, W8 = w7.alloc (.cells #[.int .i64 2, .int .i64 0, .slice r1 1048576 d1, .slice r2 0 d2, .slice r3 0 d3] 28) := ⟨_, rfl⟩
      rw [← hE2, ← hW8]
      have hb8 : W8.heap[E2]? = some (.cells #[.int .i64 2, .int .i64 0, .slice r1 1048576 d1, .slice r2 0 d2, .slice r3 0 d3] 28 (0, 0)) := by rw [hW8, hE2]; exact heap_alloc_new w7 _
      have hf78 : Fr No w7 W8 := by rw [hW8]; exact (Fr.refl _ _).alloc _
      have HQ8 := Lib.hid (And.intro hb8 (And.intro (HF7.out.1.trans_same hf78) (HF7.out.2.trans_same hf78)))
      clear hE2 hW8 hb8 hf78 p0 p1 p2 p3 p4
      obtain ⟨Z3, hZ3, hmk3⟩ := make_bytes 1048577 (by decide)
      have hmk3' : (Instr.makeSlice 24 (.int .i64 1048577) (.int .i64 1048577)).run Tryz.prog W8 = .ok (.slice (some ⟨W8.heap.size, 0, none⟩) 1048577 1048577) (W8.alloc (.cells Z3 5)) := hmk3 W8
      obtain ⟨B3, hB3⟩ : ∃ B3, B3 = W8.heap.size := ⟨_, rfl⟩
      obtain ⟨W9, hW9⟩ : ∃ W9, W9 = W8.alloc (.cells Z3 5) := ⟨_, rfl⟩
      rw [← hB3, ← hW9] at hmk3'
      have HQ9 : Hid (Zeros W9 B3 1048577 ∧ Fr No W8 W9) := Lib.hid ⟨⟨Z3, by rw [hW9, hB3]; exact heap_alloc_new W8 _, hZ3⟩, by rw [hW9]; exact (Fr.refl _ _).alloc _⟩
      clear hZ3 hmk3 hB3 hW9
      go_upto_region 14 with fail
      clear hmk3'
      obtain ⟨E3, hE3⟩ : ∃ E3, E3 = W9.heap.size := ⟨_, rfl⟩
      obtain ⟨WA, hWA⟩ : ∃ WA, WA = W9.alloc (.cells #[.int .i64 2, .int .i64 0, .slice (some ⟨B3, 0, none⟩) 1048577 1048577, .slice none 0 0, .slice none 0 0] 28) := ⟨_, rfl⟩
      rw [← hE3, ← hWA]
      have hbA : WA.heap[E3]? = some (.cells #[.int .i64 2, .int .i64 0, .slice (some ⟨B3, 0, none⟩) 1048577 1048577, .slice none 0 0, .slice none 0 0] 28 (0, 0)) := by rw [hWA, hE3]; exact heap_alloc_new W9 _
      have hf9A : Fr No W9 WA := by rw [hWA]; exact (Fr.refl _ _).alloc _
      have hf8A : Fr No W8 WA := HQ9.out.2.trans_same hf9A
      have hf5A : Fr No W5 WA := HQ8.out.2.2.trans_same hf8A
      have HQA : Hid (∀ wx, Fr No WA wx → wx.heap[E1]? = some (.cells #[.int .i64 2, .int .i64 0, .slice (some ⟨B2, 0, none⟩) 1048576 1048576, .slice none 0 0, .slice none 0 0] 28 (0, 0)) ∧ wx.heap[E2]? = some (.cells #[.int .i64 2, .int .i64 0, .slice r1 1048576 d1, .slice r2 0 d2, .slice r3 0 d3] 28 (0, 0)) ∧ wx.heap[E3]? = some (.cells #[.int .i64 2, .int .i64 0, .slice (some ⟨B3, 0, none⟩) 1048577 1048577, .slice none 0 0, .slice none 0 0] 28 (0, 0)) ∧ Zeros wx B2 1048576 ∧ Zeros wx B3 1048577 ∧ Fr No w wx) := Lib.hid (fun wx hx =>
        ⟨(hf5A.trans_same hx).at HQ5.out.1 (fun h => h), (hf8A.trans_same hx).at HQ8.out.1 (fun h => h), hx.at hbA (fun h => h), HQ5.out.2.1.fr (hf5A.trans_same hx), HQ9.out.1.fr (hf9A.trans_same hx), (HQ8.out.2.1.trans_same hf8A).trans_same hx⟩)
      clear hE3 hWA hbA hf9A hf8A hf5A
      go_upto_region 15 with (go_at_call 8; refine (HPT.out _).mono ?_; rintro e w9 ⟨rfl, rfl⟩)
      obtain ⟨⟨p0, p1, p2, p3, p4⟩, _⟩ := res_cells (HQA.out WA (Fr.refl _ _)).1
      go_upto_region 16 with fail
      clear p0 p1 p2 p3 p4
      generalize hWB : World.alloc WA _ = WB
      obtain ⟨X, hX⟩ : ∃ X, X = WA.heap.size := ⟨_, rfl⟩
      rw [← hX]
      have hbX : WB.heap[X]? = some (.cells (eight 1048576 B2).toArray 28 (0, 0)) := by rw [← hWB, hX]; exact heap_alloc_new WA _
      have hfAB : Fr No WA WB := by rw [← hWB]; exact (Fr.refl _ _).alloc _
      have HT3 : Hid (Calls Tryz.prog 4 #[.slice (some ⟨X, 0, none⟩) 8 8] WB fun e w' => e = .returned (.tuple #[.string ⟨#[]⟩, .int .i64 0, .int .i64 3]) ∧ Fr No WA w') := Lib.hid (by
        have h := stextG_any (some ⟨X, 0, none⟩) 8 8 (List.replicate 8 (bigE 1048576)) WB List.length_replicate (eight_evs (HQA.out WB hfAB).2.2.2.1 hbX) (fun e he => by rw [List.eq_of_mem_replicate he]; exact ⟨by rw [big_may]; decide, big_nums _, big_tab _ _⟩) (by decide)
        rw [many_text] at h
        exact h.mono (fun e w' ⟨h1, h2⟩ => ⟨h1, hfAB.trans_same h2⟩))
      have HCB : Hid (∀ wx, Fr No WA wx → Calls Tryz.prog 10 #[.agg #[.int .i64 2, .int .i64 0, .slice (some ⟨B2, 0, none⟩) 1048576 1048576, .slice none 0 0, .slice none 0 0]] wx fun e w' => e = .returned (.int .i64 0) ∧ Fr No wx w') := Lib.hid (fun wx hx => by
        have h := check_any _ (bigE 1048576) wx ((HQA.out wx hx).2.2.2.1.ev) (big_small _ (by decide))
        rw [big_may, if_pos (by decide)] at h
        exact h)
      have HCO : Hid (∀ wx, Fr No WA wx → Calls Tryz.prog 10 #[.agg #[.int .i64 2, .int .i64 0, .slice (some ⟨B3, 0, none⟩) 1048577 1048577, .slice none 0 0, .slice none 0 0]] wx fun e w' => e = .returned (.int .i64 410) ∧ Fr No wx w') := Lib.hid (fun wx hx => by
        have h := check_any _ (bigE 1048577) wx ((HQA.out wx hx).2.2.2.2.1.ev) (big_small _ (by decide))
        rw [big_may, if_neg (by decide)] at h
        exact h)
      clear hX hWB hbX hfAB
      have HCK : Hid (∀ wx v r, Fr No WA wx → ((v = .agg #[.int .i64 2, .int .i64 0, .slice (some ⟨B2, 0, none⟩) 1048576 1048576, .slice none 0 0, .slice none 0 0] ∧ r = 0) ∨ (v = .agg #[.int .i64 2, .int .i64 0, .slice (some ⟨B3, 0, none⟩) 1048577 1048577, .slice none 0 0, .slice none 0 0] ∧ r = 410)) → Calls Tryz.prog 10 #[v] wx fun e w' => e = .returned (.int .i64 r) ∧ Fr No wx w') := Lib.hid (fun wx v r hx hv => by
        rcases hv with ⟨rfl, rfl⟩ | ⟨rfl, rfl⟩
        · exact HCB.out wx hx
        · exact HCO.out wx hx)
      clear HCB HCO
      go_upto_region 17 with (go_at_call 4; refine HT3.out.mono ?_; rintro e wb ⟨rfl, hfb⟩)
      have hq := HQA.out wb hfb
      obtain ⟨⟨p0, p1, p2, p3, p4⟩, _⟩ := res_cells hq.1
      obtain ⟨⟨_, _, q2, _, _⟩, _⟩ := res_cells hq.2.1
      have l2 := lt_of_block hq.2.1
      clear hq
      go_wp2_with (first
        | (go_at_call 9; refine (num_any _ _).mono ?_; rintro e wn ⟨rfl, rfl⟩)
        | (go_at_call 10; refine (HCK.out _ _ _ (by assumption) (by first | exact .inl ⟨rfl, rfl⟩ | exact .inr ⟨rfl, rfl⟩)).mono ?_; rintro e wc ⟨rfl, hfc⟩; have hfd := Fr.trans_same (by assumption : Fr No WA _) hfc; clear hfc; obtain ⟨⟨k0, k1, k2, k3, k4⟩, _⟩ := res_cells (HQA.out wc hfd).2.2.1)
        | (go_at_call 11; refine (HWK.out _ (HQA.out _ (by assumption)).2.2.2.2.2).mono ?_; rintro e wd ⟨rfl, hfw⟩))
      go_ret
      exact ⟨rfl, (HQA.out _ (by assumption)).2.2.2.2.2.trans_same hfw⟩
end Go.Proofs.YtimglodailhkaaaGreat
