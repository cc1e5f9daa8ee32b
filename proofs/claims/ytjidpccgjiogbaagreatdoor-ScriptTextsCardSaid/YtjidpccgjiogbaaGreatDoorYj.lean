/-
  ScriptTexts walked: it is true.
-/
import Derived.Test.YtjidpccgjiogbaaGreatDoorYi
import Derived.Deep.DeepMust
namespace Go.Proofs.YtjidpccgjiogbaaGreatDoor
open Go Go.RowKit
set_option maxHeartbeats 16000000 in
set_option maxRecDepth 100000 in
theorem scriptTexts_any {BB : Prop} (a : Option Addr) (c n : Nat) (kd cc : Int) (es : List Ev) (w : World) (hn : es.length = n) (hl : EvsAt w a es) (hns : ∀ e ∈ es, e.nums) (hV : Vars True BB w) (m0 : Int) (hm0 : w.cell? ⟨0, 0, none⟩ = some (.int .i64 m0)) :
    Calls Tryz.prog 5 #[.slice a n c, .int .i64 kd, .int .i64 cc] w fun e w' => e = .returned (.bool true) ∧ Fr No w w' := by
  have h0 : 0 < w.heap.size := by
    unfold World.cell? at hm0
    rcases Nat.eq_zero_or_pos w.heap.size with h | h
    · rw [Array.getElem?_eq_none (by omega)] at hm0; cases hm0
    · exact h
  have HV := Lib.hid (fun (wx : World) (hx : Fr No w wx) => (And.intro (hV.below hx.toBelow) ((hx.cell (p := ⟨0, 0, none⟩) h0 (fun h => h)).trans hm0) : Vars True BB wx ∧ wx.cell? ⟨0, 0, none⟩ = some (.int .i64 m0)))
  have HWK := Lib.hid (fun wx (hx : Fr No w wx) => works_any wx (HV.out wx hx).1 m0 (HV.out wx hx).2)
  have HX := Lib.hid (And.intro hl (And.intro hn hns))
  clear hl hns hV hm0 h0
  by_cases hbig : 100 < n
  · have hb2 : (100 : Int) < (n : Int) := by omega
    clear hn
    go_enter Tryz.func5, Tryz.ntmps5
    go_wp2_with (go_at_call 7; refine (HWK.out _ (Fr.refl _ _)).mono ?_; rintro e w3 ⟨rfl, hf3⟩)
    go_ret
    exact ⟨rfl, hf3⟩
  have hb2 : ¬ (100 : Int) < (n : Int) := by omega
  have hLG := long_any a c es w HX.out.1 (by rw [hn]; omega)
  rw [hn] at hLG
  clear hn
  cases hz : es.any isLong with
  | true =>
    rw [hz] at hLG
    have HLG := Lib.hid hLG
    clear hLG hz
    go_enter Tryz.func5, Tryz.ntmps5
    go_wp2_with (first | (go_at_call 6; refine HLG.out.mono ?_; rintro e w2 ⟨rfl, rfl⟩) | (go_at_call 7; refine (HWK.out _ (Fr.refl _ _)).mono ?_; rintro e w3 ⟨rfl, hf3⟩))
    go_ret
    exact ⟨rfl, hf3⟩
  | false =>
    rw [hz] at hLG
    have HLG := Lib.hid hLG
    have HSH : Hid (∀ e ∈ es, isLong e = false) := Lib.hid (fun e he => by
      rw [List.any_eq_false] at hz
      have := hz e he
      simpa using this)
    have HSM : Hid (∀ e ∈ es, e.small) := Lib.hid (fun e he => by
      obtain ⟨h1, h2, h3⟩ := short_small (HSH.out e he)
      exact ⟨by omega, by omega, by omega⟩)
    clear hLG hz
    go_enter Tryz.func5, Tryz.ntmps5
    go_wp2_with (go_at_call 6; refine HLG.out.mono ?_; rintro e w2 ⟨rfl, rfl⟩)
    go_loopg [7, 8] n (fun g s7 s8 wr => ∃ (i : Nat) (ad : Option Addr) (cp : Nat) (ps : List PV), s7 = .slice ad i cp ∧ s8 = .int .i64 i ∧ i ≤ n ∧ Hid (MAt wr w.heap.size (.slice ad i cp) ps ∧ ps.length = i ∧ ps.map (·.2) = es.take i) ∧ Hid (Fr No w wr) ∧ g + i = n)
    case atStart => exact ⟨0, none, 0, [], rfl, rfl, by omega, Lib.hid ⟨⟨World.ownsRow_nil _ _ _ _, fun _ h => absurd h (List.not_mem_nil)⟩, rfl, rfl⟩, Lib.hid (Fr.refl _ _), by omega⟩
    case round =>
      obtain ⟨i, ad, cp, ps, rfl, rfl, hi, HM, HF, hg⟩ := hrel
      have HG := Lib.hid hg
      clear hg
      by_cases hlt : i < n
      · have hlti : (i : Int) < (n : Int) := by omega
        have hwi : IntKind.i64.wrap ((i : Int) + 1) = (i : Int) + 1 := IntWalk.i64_in _ (by omega)
        have l1 : i < es.length := by rw [HX.out.2.1]; exact hlt
        obtain ⟨b9, off, k, cn, a1, n1, c1, a2, n2, c2, a3, n3, c3, rfl, hb9, ⟨p0, p1, p2, p3, p4⟩, hev, _⟩ := (HX.out.1.no HF.out).get i l1
        have hsh := short_small (HSH.out _ (List.getElem_mem l1))
        have HCP := Lib.hid (copied_ty _ es[i] wr hev (by omega) (by omega) (by omega))
        obtain ⟨i0, hi0, hz0, hz1, hz2⟩ := info_parts infoEv
        clear hev hsh
        go_wp2_with (first
          | (go_at_call 8; refine HCP.out.mono ?_; rintro e1 w1 ⟨v1, rfl, hk1, hf1, ty1⟩; obtain ⟨k', cn', x1, m1, y1, x2, m2, y2, x3, m3, y3, rfl, _⟩ := hk1.named; have HK1 := Lib.hid (And.intro hk1 (And.intro hf1 ty1)); clear hk1 hf1 ty1)
          | (at_builtin; refine wpList_append_any (P := Tryz.prog) rfl _ _ 44 rfl w.heap.size 27 i0 (.agg #[.int .i64 0, .int .i64 0, .slice none 0 0, .slice none 0 0, .slice none 0 0]) 5 88 Tryz.underlying44 hi0 hz0 hz1 hz2 rfl (by decide) (.slice ad i cp) i (rowCells ps) rfl (by have h := HM.out.1.own; rw [HM.out.2.1] at h; exact (Kt.ofFr (HK1.out.2.1.alloc _)).owns h) (some ⟨w1.heap.size, 0, none⟩) 1 1 [.int .i64 k', .int .i64 cn', .slice x1 m1 y1, .slice x2 m2 y2, .slice x3 m3 y3] rfl rfl (Row.front (ds := []) (Row.new (heap_alloc_new w1 _))) (by intro u hu; simp at hu; rcases hu with rfl | rfl | rfl | rfl | rfl <;> rfl) (by unfold maxLen; omega) (by omega) (by have h1 := HF.out.size; have h2 := HK1.out.2.1.size; simp; omega) ?_; intro v3 w3 k1 k2))
        have hk9 := And.intro (HK1.out.1.no ((Fr.refl No w1).alloc (.cells #[.int .i64 k', .int .i64 cn', .slice x1 m1 y1, .slice x2 m2 y2, .slice x3 m3 y3] 27))) (HK1.out.2.2.no ((Fr.refl No w1).alloc (.cells #[.int .i64 k', .int .i64 cn', .slice x1 m1 y1, .slice x2 m2 y2, .slice x3 m3 y3] 27)))
        have hf9 : Fr No wr (w1.alloc (.cells #[.int .i64 k', .int .i64 cn', .slice x1 m1 y1, .slice x2 m2 y2, .slice x3 m3 y3] 27)) := HK1.out.2.1.alloc _
        have k1' := k1
        rw [← HM.out.2.1] at k1'
        have hmat := HM.out.1.one hf9 hk9 k1' k2
        have hf3 : Fr No w w3 := (HF.out.trans_same hf9).grown k2 (fun r e hr => by have := (World.ownsRow.lt HM.out.1.own r e).1; exact absurd hr (by omega))
        obtain ⟨ad3, cp3, rfl⟩ := own_slice k1
        go_roundg (gk - 1)
        case measure => have := HG.out; omega
        case rel =>
          refine ⟨i + 1, ad3, cp3, _, rfl, by go_num, by omega, Lib.hid ⟨hmat, by rw [List.length_append, HM.out.2.1]; rfl, ?_⟩, Lib.hid hf3, by have := HG.out; omega⟩
          rw [List.map_append, HM.out.2.2, List.take_succ_eq_append_getElem l1]
          rfl
      · have hlti : ¬ (i : Int) < (n : Int) := by omega
        obtain rfl : n = i := by omega
        have HKS : Hid (KsAt wr ad es) := Lib.hid (by
          have h := HM.out.1.ks
          rw [HM.out.2.2, List.take_of_length_le (by rw [HX.out.2.1]; omega)] at h
          exact h)
        clear HM HG hlt hlti
        obtain ⟨TX, hTX⟩ : ∃ TX, TX = strB (text31 es).1 := ⟨_, rfl⟩
        obtain ⟨TN, hTN⟩ : ∃ TN, TN = (text31 es).2.1 := ⟨_, rfl⟩
        obtain ⟨TE, hTE⟩ : ∃ TE, TE = (text31 es).2.2 := ⟨_, rfl⟩
        obtain ⟨CK, hCK⟩ : ∃ CK, CK = countK kd es := ⟨_, rfl⟩
        obtain ⟨L, hL⟩ : ∃ L, L = (sentB cc es).length := ⟨_, rfl⟩
        have hLs : L ≤ 20000 * n := by rw [hL, ← HX.out.2.1]; exact sentB_len cc es HSH.out
        have hsn : ∀ e ∈ es, isLong e = false ∧ e.nums := fun e he => ⟨HSH.out e he, HX.out.2.2 e he⟩
        have HT := stext_any ad cp n es wr HX.out.2.1 HKS.out.evs hsn (by omega) ((HV.out _ HF.out).1.tab trivial)
        have HRT := fun wx (hx : Fr No w wx) => rtext_any a c n es wx HX.out.2.1 (HX.out.1.no hx) hsn (by omega) ((HV.out _ hx).1.tab trivial)
        have HCN := fun wx (hx : Fr No wr wx) => count_any kd ad cp n es wx HX.out.2.1 (HKS.out.no hx).evs (by omega)
        rw [← hTX, ← hTN, ← hTE] at HT
        rw [← hTX, ← hTN, ← hTE] at HRT
        rw [← hCK] at HCN
        have HT := Lib.hid HT
        have HRT := Lib.hid HRT
        have HCN := Lib.hid HCN
        have HPT := Lib.hid (fun wx (hx : Fr No wr wx) => parts_any ad cp n es wx HX.out.2.1 (HKS.out.no hx).evs HSH.out (by omega))
        have HSN := Lib.hid (fun wx (hx : Fr No wr wx) => sent_any cc ad cp n es wx HX.out.2.1 (HKS.out.no hx).evs HSH.out (by omega))
        have HCK := Lib.hid hCK
        have HL := Lib.hid hL
        clear hTX hTN hTE hCK hL hsn
        go_wp2_with (first
          | (go_at_call 25; refine HT.out.mono ?_; rintro e2 w2 ⟨rfl, hf2⟩; have HF2 := Lib.hid hf2; clear hf2)
          | (go_at_call 26; refine (HRT.out _ (HF.out.trans_same HF2.out)).mono ?_; rintro e3 w3 ⟨rfl, hf3⟩; have HF3 := Lib.hid (HF2.out.trans_same hf3); clear hf3)
          | (go_at_call 27; refine (HCN.out _ HF3.out).mono ?_; rintro e4 w4 ⟨rfl, hf4⟩; have HF4 := Lib.hid (HF3.out.trans_same hf4); clear hf4)
          | (go_at_call 28; refine (HPT.out _ HF4.out).mono ?_; rintro e5 w5 ⟨vp, rows, vs, rfl, hpo, hch, hpm, hf5⟩; obtain ⟨N, hN⟩ : ∃ N, N = rows.length := ⟨_, rfl⟩; obtain ⟨G, pc, rfl⟩ := hpo.head (by intro h; rw [h] at hpm; exact parts_ne es hpm.symm); rw [← hN] at hpo; have HP5 := Lib.hid (And.intro hpo (And.intro hch (And.intro hpm (And.intro hf5 hN)))); rw [← hN]; clear hpo hch hpm hf5 hN)
          | (go_at_call 29; refine (HSN.out _ (HF4.out.trans_same HP5.out.2.2.2.1)).mono ?_; rintro e6 w6 ⟨vsn, rfl, hos, hf6⟩; obtain ⟨ads, sc, rfl⟩ := own_slice hos; have H6 := Lib.hid (And.intro hos hf6); rw [← HL.out]; clear hos hf6))
        have HW6 : Hid (Fr No w w6 ∧ Fr No wr w6) := Lib.hid (by
          have h := (HF4.out.trans_same HP5.out.2.2.2.1).trans_same H6.out.2
          exact ⟨HF.out.trans_same h, h⟩)
        obtain ⟨M1, hM1⟩ : ∃ M1, M1 = wr := ⟨_, rfl⟩
        rw [← hM1] at HKS HF HF2 HF3 HF4 HW6
        clear HT HRT HCN HPT HSN hM1
        go_loopg [19, 20, 21] n (fun g s19 s20 s21 wr => ∃ (i q : Nat) (X : ByteArray), s19 = .string X ∧ s20 = .int .i64 q ∧ s21 = .int .i64 i ∧ i ≤ n ∧ q ≤ i ∧ X.size ≤ 20000 * i ∧ Hid (q = countK kd (es.take i) ∧ X = strB (sentB cc (es.take i))) ∧ Hid (Fr No w6 wr) ∧ g + i = n)
        case atStart => exact ⟨0, 0, _, rfl, rfl, rfl, by omega, by omega, by decide, Lib.hid ⟨rfl, rfl⟩, Lib.hid (Fr.refl _ _), by omega⟩
        case round =>
          obtain ⟨i, q, X, rfl, rfl, rfl, hi, hq, hxz, HQ, HF7, hg⟩ := hrel
          have HG := Lib.hid hg
          clear hg
          by_cases hlt : i < n
          · have hlti : (i : Int) < (n : Int) := by omega
            have hwi : IntKind.i64.wrap ((i : Int) + 1) = (i : Int) + 1 := IntWalk.i64_in _ (by omega)
            have hwq : IntKind.i64.wrap ((q : Int) + 1) = (q : Int) + 1 := IntWalk.i64_in _ (by omega)
            have l1 : i < es.length := by rw [HX.out.2.1]; exact hlt
            obtain ⟨b9, off, k, cn, a1, n1, c1, a2, n2, c2, a3, n3, c3, rfl, hb9, ⟨p0, p1, p2, p3, p4⟩, hev, hke, hcne, hne⟩ := (HX.out.1.no (HW6.out.1.trans_same HF7.out)).get i l1
            obtain ⟨b8, of8, km, cnm, a1m, n1m, c1m, a2m, n2m, c2m, a3m, n3m, c3m, rfl, hb8, ⟨q0, q1, q2, q3, q4⟩, hkp⟩ := (HKS.out.no (HW6.out.2.trans_same HF7.out)).get i l1
            have HSS : Hid (∀ wx, Fr No wr wx → (wx.cell? ⟨b9, off + i * 5, none⟩ = some (.int .i64 k) ∧ wx.cell? ⟨b9, off + i * 5 + 1, none⟩ = some (.int .i64 cn) ∧ wx.cell? ⟨b9, off + i * 5 + 2, none⟩ = some (.slice a1 n1 c1) ∧ wx.cell? ⟨b9, off + i * 5 + 3, none⟩ = some (.slice a2 n2 c2) ∧ wx.cell? ⟨b9, off + i * 5 + 4, none⟩ = some (.slice a3 n3 c3) ∧ wx.cell? ⟨b8, of8 + i * 5, none⟩ = some (.int .i64 km) ∧ wx.cell? ⟨b8, of8 + i * 5 + 1, none⟩ = some (.int .i64 cnm) ∧ wx.cell? ⟨b8, of8 + i * 5 + 2, none⟩ = some (.slice a1m n1m c1m) ∧ wx.cell? ⟨b8, of8 + i * 5 + 3, none⟩ = some (.slice a2m n2m c2m) ∧ wx.cell? ⟨b8, of8 + i * 5 + 4, none⟩ = some (.slice a3m n3m c3m) ∧ Hid (Fr No wr wx))) := Lib.hid (fun wx hx => ⟨(hx.cell (p := ⟨b9, off + i * 5, none⟩) hb9 (fun h => h)).trans p0, (hx.cell (p := ⟨b9, off + i * 5 + 1, none⟩) hb9 (fun h => h)).trans p1, (hx.cell (p := ⟨b9, off + i * 5 + 2, none⟩) hb9 (fun h => h)).trans p2, (hx.cell (p := ⟨b9, off + i * 5 + 3, none⟩) hb9 (fun h => h)).trans p3, (hx.cell (p := ⟨b9, off + i * 5 + 4, none⟩) hb9 (fun h => h)).trans p4, (hx.cell (p := ⟨b8, of8 + i * 5, none⟩) hb8 (fun h => h)).trans q0, (hx.cell (p := ⟨b8, of8 + i * 5 + 1, none⟩) hb8 (fun h => h)).trans q1, (hx.cell (p := ⟨b8, of8 + i * 5 + 2, none⟩) hb8 (fun h => h)).trans q2, (hx.cell (p := ⟨b8, of8 + i * 5 + 3, none⟩) hb8 (fun h => h)).trans q3, (hx.cell (p := ⟨b8, of8 + i * 5 + 4, none⟩) hb8 (fun h => h)).trans q4, Lib.hid hx⟩)
            have HKP : Hid (∀ wx, (wx.cell? ⟨b9, off + i * 5, none⟩ = some (.int .i64 k) ∧ wx.cell? ⟨b9, off + i * 5 + 1, none⟩ = some (.int .i64 cn) ∧ wx.cell? ⟨b9, off + i * 5 + 2, none⟩ = some (.slice a1 n1 c1) ∧ wx.cell? ⟨b9, off + i * 5 + 3, none⟩ = some (.slice a2 n2 c2) ∧ wx.cell? ⟨b9, off + i * 5 + 4, none⟩ = some (.slice a3 n3 c3) ∧ wx.cell? ⟨b8, of8 + i * 5, none⟩ = some (.int .i64 km) ∧ wx.cell? ⟨b8, of8 + i * 5 + 1, none⟩ = some (.int .i64 cnm) ∧ wx.cell? ⟨b8, of8 + i * 5 + 2, none⟩ = some (.slice a1m n1m c1m) ∧ wx.cell? ⟨b8, of8 + i * 5 + 3, none⟩ = some (.slice a2m n2m c2m) ∧ wx.cell? ⟨b8, of8 + i * 5 + 4, none⟩ = some (.slice a3m n3m c3m) ∧ Hid (Fr No wr wx)) → Calls Tryz.prog 12 #[(.agg #[.int .i64 km, .int .i64 cnm, .slice a1m n1m c1m, .slice a2m n2m c2m, .slice a3m n3m c3m]), (.agg #[.int .i64 k, .int .i64 cn, .slice a1 n1 c1, .slice a2 n2 c2, .slice a3 n3 c3])] wx fun e w1 => e = .returned (.bool true) ∧ (w1.cell? ⟨b9, off + i * 5, none⟩ = some (.int .i64 k) ∧ w1.cell? ⟨b9, off + i * 5 + 1, none⟩ = some (.int .i64 cn) ∧ w1.cell? ⟨b9, off + i * 5 + 2, none⟩ = some (.slice a1 n1 c1) ∧ w1.cell? ⟨b9, off + i * 5 + 3, none⟩ = some (.slice a2 n2 c2) ∧ w1.cell? ⟨b9, off + i * 5 + 4, none⟩ = some (.slice a3 n3 c3) ∧ w1.cell? ⟨b8, of8 + i * 5, none⟩ = some (.int .i64 km) ∧ w1.cell? ⟨b8, of8 + i * 5 + 1, none⟩ = some (.int .i64 cnm) ∧ w1.cell? ⟨b8, of8 + i * 5 + 2, none⟩ = some (.slice a1m n1m c1m) ∧ w1.cell? ⟨b8, of8 + i * 5 + 3, none⟩ = some (.slice a2m n2m c2m) ∧ w1.cell? ⟨b8, of8 + i * 5 + 4, none⟩ = some (.slice a3m n3m c3m) ∧ Hid (Fr No wr w1))) := Lib.hid (fun wx h => by
              have hx := h.2.2.2.2.2.2.2.2.2.2.out
              refine (kept_any _ _ es[i] wx (hkp.no hx) (hev.no hx) (HSM.out _ (List.getElem_mem l1))).mono ?_
              rintro e w1 ⟨h1, h2⟩
              exact ⟨h1, HSS.out w1 (hx.trans_same h2)⟩)
            have HCV := Lib.hid (fun wx (hx : Fr No wr wx) => conv_bytes wx a1 c1 es[i].bytes (hev.no hx).rows.1)
            have hsh := (short_small (HSH.out _ (List.getElem_mem l1))).1
            have HCT := Lib.hid (And.intro (countK_take kd es i l1) (sentB_take cc es i l1))
            rw [hne] at HCV hsh
            obtain ⟨Y, hY⟩ : ∃ Y : ByteArray, Y = ⟨es[i].bytes.toArray⟩ := ⟨_, rfl⟩
            rw [← hY] at HCV
            have hYs : Y.size ≤ 20000 := by rw [hY, size_mk, hne]; exact hsh
            have HYY := Lib.hid (And.intro hY (And.intro hke hcne))
            have hsA := HSS.out wr.drew (Fr.refl No wr).drew
            clear hev hkp hke hcne hne hsh hY hlt
            go_upto_region 17 with fail
            go_region_held3 (fun w1 => (w1.cell? ⟨b9, off + i * 5, none⟩ = some (.int .i64 k) ∧ w1.cell? ⟨b9, off + i * 5 + 1, none⟩ = some (.int .i64 cn) ∧ w1.cell? ⟨b9, off + i * 5 + 2, none⟩ = some (.slice a1 n1 c1) ∧ w1.cell? ⟨b9, off + i * 5 + 3, none⟩ = some (.slice a2 n2 c2) ∧ w1.cell? ⟨b9, off + i * 5 + 4, none⟩ = some (.slice a3 n3 c3) ∧ w1.cell? ⟨b8, of8 + i * 5, none⟩ = some (.int .i64 km) ∧ w1.cell? ⟨b8, of8 + i * 5 + 1, none⟩ = some (.int .i64 cnm) ∧ w1.cell? ⟨b8, of8 + i * 5 + 2, none⟩ = some (.slice a1m n1m c1m) ∧ w1.cell? ⟨b8, of8 + i * 5 + 3, none⟩ = some (.slice a2m n2m c2m) ∧ w1.cell? ⟨b8, of8 + i * 5 + 4, none⟩ = some (.slice a3m n3m c3m) ∧ Hid (Fr No wr w1))) (assumption) (first
              | (go_at_call 12; refine (HKP.out _ (by assumption)).mono ?_; rintro e' w7 ⟨rfl, hS7⟩))
            obtain ⟨p0, p1, p2, p3, p4, _, _, _, _, _, hx7⟩ := hS7
            have HX7 := Lib.hid hx7.out
            have hcv := HCV.out w7 HX7.out
            clear hx7 hsA q0 q1 q2 q3 q4
            by_cases hk : k = kd
            · skip
              have hkb : (k == kd) = true := by simpa using hk
              have hkd : decide (k = kd) = true := decide_eq_true hk
              have hkH := Lib.hid hk
              clear hk
              by_cases h2 : k = 2
              · have h2b : (k == (2 : Int)) = true := by simpa using h2
                have h2d : decide (k = (2 : Int)) = true := decide_eq_true h2
                have h2H := Lib.hid h2
                clear h2
                by_cases h3 : cn = cc
                · have h3b : (cn == cc) = true := by simpa using h3
                  have h3d : decide (cn = cc) = true := decide_eq_true h3
                  have h3H := Lib.hid h3
                  clear h3
                  have HC : Hid (q + 1 = countK kd (es.take (i + 1))) := Lib.hid (by rw [HCT.out.1, ← HQ.out.1, HYY.out.2.1, if_pos hkH.out])
                  have HT : Hid (X ++ Y = strB (sentB cc (es.take (i + 1)))) := Lib.hid (by rw [HCT.out.2, HQ.out.2, HYY.out.1, ← strB_app]; unfold sentE; rw [if_pos ⟨by rw [HYY.out.2.1]; exact h2H.out, by rw [HYY.out.2.2]; exact h3H.out⟩]; rfl)
                  go_wp2_with fail
                  go_roundg (gk - 1)
                  case measure => have := HG.out; omega
                  case rel => exact ⟨i + 1, q + 1, _, rfl, by go_num, by go_num, by omega, by omega, by rw [ByteArray.size_append']; omega, Lib.hid ⟨HC.out, HT.out⟩, Lib.hid (HF7.out.trans_same HX7.out), by have := HG.out; omega⟩
                · have h3b : (cn == cc) = false := by simpa using h3
                  have h3d : decide (cn = cc) = false := decide_eq_false h3
                  have h9 : ¬ (k = 2 ∧ cn = cc) := fun h => h3 h.2
                  have HC : Hid (q + 1 = countK kd (es.take (i + 1))) := Lib.hid (by rw [HCT.out.1, ← HQ.out.1, HYY.out.2.1, if_pos hkH.out])
                  have HT : Hid (X = strB (sentB cc (es.take (i + 1)))) := Lib.hid (by rw [HCT.out.2, HQ.out.2]; unfold sentE; rw [if_neg (by rw [HYY.out.2.1, HYY.out.2.2]; exact h9), List.append_nil])
                  go_wp2_with fail
                  go_roundg (gk - 1)
                  case measure => have := HG.out; omega
                  case rel => exact ⟨i + 1, q + 1, _, rfl, by go_num, by go_num, by omega, by omega, by omega, Lib.hid ⟨HC.out, HT.out⟩, Lib.hid (HF7.out.trans_same HX7.out), by have := HG.out; omega⟩
              · have h2b : (k == (2 : Int)) = false := by simpa using h2
                have h2d : decide (k = (2 : Int)) = false := decide_eq_false h2
                have h9 : ¬ (k = 2 ∧ cn = cc) := fun h => h2 h.1
                have HC : Hid (q + 1 = countK kd (es.take (i + 1))) := Lib.hid (by rw [HCT.out.1, ← HQ.out.1, HYY.out.2.1, if_pos hkH.out])
                have HT : Hid (X = strB (sentB cc (es.take (i + 1)))) := Lib.hid (by rw [HCT.out.2, HQ.out.2]; unfold sentE; rw [if_neg (by rw [HYY.out.2.1, HYY.out.2.2]; exact h9), List.append_nil])
                go_wp2_with fail
                go_roundg (gk - 1)
                case measure => have := HG.out; omega
                case rel => exact ⟨i + 1, q + 1, _, rfl, by go_num, by go_num, by omega, by omega, by omega, Lib.hid ⟨HC.out, HT.out⟩, Lib.hid (HF7.out.trans_same HX7.out), by have := HG.out; omega⟩
            · skip
              have hkb : (k == kd) = false := by simpa using hk
              have hkd : decide (k = kd) = false := decide_eq_false hk
              by_cases h2 : k = 2
              · have h2b : (k == (2 : Int)) = true := by simpa using h2
                have h2d : decide (k = (2 : Int)) = true := decide_eq_true h2
                have h2H := Lib.hid h2
                clear h2
                by_cases h3 : cn = cc
                · have h3b : (cn == cc) = true := by simpa using h3
                  have h3d : decide (cn = cc) = true := decide_eq_true h3
                  have h3H := Lib.hid h3
                  clear h3
                  have HC : Hid (q = countK kd (es.take (i + 1))) := Lib.hid (by rw [HCT.out.1, ← HQ.out.1, HYY.out.2.1, if_neg hk, Nat.add_zero])
                  have HT : Hid (X ++ Y = strB (sentB cc (es.take (i + 1)))) := Lib.hid (by rw [HCT.out.2, HQ.out.2, HYY.out.1, ← strB_app]; unfold sentE; rw [if_pos ⟨by rw [HYY.out.2.1]; exact h2H.out, by rw [HYY.out.2.2]; exact h3H.out⟩]; rfl)
                  go_wp2_with fail
                  go_roundg (gk - 1)
                  case measure => have := HG.out; omega
                  case rel => exact ⟨i + 1, q, _, rfl, by go_num, by go_num, by omega, by omega, by rw [ByteArray.size_append']; omega, Lib.hid ⟨HC.out, HT.out⟩, Lib.hid (HF7.out.trans_same HX7.out), by have := HG.out; omega⟩
                · have h3b : (cn == cc) = false := by simpa using h3
                  have h3d : decide (cn = cc) = false := decide_eq_false h3
                  have h9 : ¬ (k = 2 ∧ cn = cc) := fun h => h3 h.2
                  have HC : Hid (q = countK kd (es.take (i + 1))) := Lib.hid (by rw [HCT.out.1, ← HQ.out.1, HYY.out.2.1, if_neg hk, Nat.add_zero])
                  have HT : Hid (X = strB (sentB cc (es.take (i + 1)))) := Lib.hid (by rw [HCT.out.2, HQ.out.2]; unfold sentE; rw [if_neg (by rw [HYY.out.2.1, HYY.out.2.2]; exact h9), List.append_nil])
                  go_wp2_with fail
                  go_roundg (gk - 1)
                  case measure => have := HG.out; omega
                  case rel => exact ⟨i + 1, q, _, rfl, by go_num, by go_num, by omega, by omega, by omega, Lib.hid ⟨HC.out, HT.out⟩, Lib.hid (HF7.out.trans_same HX7.out), by have := HG.out; omega⟩
              · have h2b : (k == (2 : Int)) = false := by simpa using h2
                have h2d : decide (k = (2 : Int)) = false := decide_eq_false h2
                have h9 : ¬ (k = 2 ∧ cn = cc) := fun h => h2 h.1
                have HC : Hid (q = countK kd (es.take (i + 1))) := Lib.hid (by rw [HCT.out.1, ← HQ.out.1, HYY.out.2.1, if_neg hk, Nat.add_zero])
                have HT : Hid (X = strB (sentB cc (es.take (i + 1)))) := Lib.hid (by rw [HCT.out.2, HQ.out.2]; unfold sentE; rw [if_neg (by rw [HYY.out.2.1, HYY.out.2.2]; exact h9), List.append_nil])
                go_wp2_with fail
                go_roundg (gk - 1)
                case measure => have := HG.out; omega
                case rel => exact ⟨i + 1, q, _, rfl, by go_num, by go_num, by omega, by omega, by omega, Lib.hid ⟨HC.out, HT.out⟩, Lib.hid (HF7.out.trans_same HX7.out), by have := HG.out; omega⟩
          · have hlti : ¬ (i : Int) < (n : Int) := by omega
            have hin : i = n := by omega
            have htk : es.take i = es := List.take_of_length_le (by rw [HX.out.2.1]; omega)
            obtain rfl : CK = q := by rw [HCK.out, HQ.out.1, htk]
            have hos := (H6.out.1.no HF7.out)
            have hcv := hos.conv
            have hXS : (⟨(sentB cc es).toArray⟩ : ByteArray) = X := by rw [HQ.out.2, htk]; rfl
            rw [hXS] at hcv
            have HOS : Hid (∃ xs : List Int, xs.length = L ∧ wr.ownsRow w5.heap.size 5 1 (.slice ads L sc) L (xs.map (Value.int .u8))) := Lib.hid (by
              refine ⟨(sentB cc es).map (fun c => (c.toNat : Int)), by rw [List.length_map]; exact HL.out.symm, ?_⟩
              have e1 : ((sentB cc es).map (fun c => (c.toNat : Int))).map (Value.int .u8) = (sentB cc es).map byteV := by rw [List.map_map]; rfl
              have h := hos
              unfold OwnsB at h
              rw [← HL.out] at h
              rw [e1]
              exact h)
            have HF8 := Lib.hid (H6.out.2.trans_same HF7.out)
            rw [← HL.out] at hcv
            clear htk hXS hos hlt HQ HG
            go_wp2_with (go_at_call 15; refine (num_any _ _).mono ?_; rintro e9 w9 ⟨rfl, rfl⟩)
            go_loopg [22] L (fun g s22 wr => ∃ i : Nat, s22 = .int .i64 i ∧ i ≤ L ∧ Hid (∃ xs : List Int, xs.length = L ∧ wr.ownsRow w5.heap.size 5 1 (.slice ads L sc) L (xs.map (Value.int .u8))) ∧ Hid (Fr No w5 wr) ∧ g + i = L)
            case atStart => exact ⟨0, rfl, by omega, HOS, HF8, by omega⟩
            case round =>
              obtain ⟨j, rfl, hj, HO, HF9, hg⟩ := hrel
              have HG := Lib.hid hg
              clear hg
              by_cases hlt : j < L
              · have hltj : (j : Int) < (L : Int) := by omega
                have hwj : IntKind.i64.wrap ((j : Int) + 1) = (j : Int) + 1 := IntWalk.i64_in _ (by omega)
                obtain ⟨xs, hx, ho⟩ := HO.out
                obtain ⟨g1, rfl, _⟩ := own_addr ho (by omega)
                obtain ⟨x, hxi⟩ : ∃ x, xs[j]? = some x := ⟨_, List.getElem?_eq_getElem (by omega)⟩
                have r1 : wr.cell? ⟨g1, j, none⟩ = some (.int .u8 x) := by rw [ho.cellAt j (by omega), List.getElem?_map, hxi]; rfl
                have r2 := ho.frozenAt j
                have r3 := (World.ownsRow.lt ho g1 rfl).2
                have HSET : Hid (∀ y : Int, (∃ xs : List Int, xs.length = L ∧ (wr.setCell ⟨g1, j, none⟩ (.int .u8 y)).ownsRow w5.heap.size 5 1 (.slice (some ⟨g1, 0, none⟩) L sc) L (xs.map (Value.int .u8))) ∧ Fr No w5 (wr.setCell ⟨g1, j, none⟩ (.int .u8 y))) := Lib.hid (fun y => by
                  refine ⟨⟨xs.set j y, by simp [hx], ?_⟩, HF9.out.setCell _ _ (fun hlt => absurd hlt (by have := (World.ownsRow.lt ho g1 rfl).1; show ¬ g1 < w5.heap.size; omega))⟩
                  rw [List.map_set]
                  exact (ho.stored j (.int .u8 y)).1)
                clear ho hx hxi
                go_wp2_with fail
                go_roundg (gk - 1)
                case measure => have := HG.out; omega
                case rel => exact ⟨j + 1, by go_num, by omega, Lib.hid (HSET.out _).1, Lib.hid (HSET.out _).2, by have := HG.out; omega⟩
              · have hltj : ¬ (j : Int) < (L : Int) := by omega
                have HF9' := HF9
                clear HO HG hlt
                have HCH : Hid (Chain wr w4.heap.size w5.heap.size rows.flatten ∧ PartsOut wr w4.heap.size (.slice (some ⟨G, 0, none⟩) N pc) rows vs ∧ Fr No w4 wr) := Lib.hid ⟨HP5.out.2.1.kt (Kt3.ofFr HF9.out), HP5.out.1.kt (Kt.ofFr HF9.out) (Kt.ofFr HF9.out), HP5.out.2.2.2.1.trans_same HF9.out⟩
                have hN1 : 1 ≤ N := by
                  rw [HP5.out.2.2.2.2]
                  refine Nat.pos_of_ne_zero (fun h => ?_)
                  have h9 := List.eq_nil_of_length_eq_zero h
                  have h8 := HP5.out.2.2.1
                  rw [h9] at h8
                  exact parts_ne es h8.symm
                have hNn : N ≤ n + 1 := by
                  rw [HP5.out.2.2.2.2, ← HX.out.2.1]
                  have h8 := parts_len es
                  rw [← HP5.out.2.2.1, List.length_map] at h8
                  exact h8
                go_wp2_with fail
                go_loopg [23, 24, 25] N (fun g s23 s24 _ wr => ∃ (tt i lo : Nat), s23 = .int .i64 tt ∧ s24 = .int .i64 i ∧ tt ≤ n ∧ i ≤ N ∧ Hid ((i < N → parts31 (es.drop tt) = (rows.drop i).map (·.map (·.2))) ∧ (i = N → tt = n)) ∧ Hid (Chain wr lo w5.heap.size (rows.drop i).flatten ∧ w4.heap.size ≤ lo ∧ PartsOut wr w4.heap.size (.slice (some ⟨G, 0, none⟩) N pc) rows vs ∧ Fr No w4 wr) ∧ g + i = N)
                case atStart => exact ⟨0, 0, w4.heap.size, rfl, rfl, by omega, by omega, Lib.hid ⟨fun _ => by rw [List.drop_zero, List.drop_zero]; exact HP5.out.2.2.1.symm, fun h => by omega⟩, Lib.hid ⟨by rw [List.drop_zero]; exact HCH.out.1, Nat.le_refl _, HCH.out.2.1, HCH.out.2.2⟩, by omega⟩
                case round =>
                  obtain ⟨tt, i, lo, rfl, rfl, htt, hi, HQ, HC, hg⟩ := hrel
                  have HG4 := Lib.hid hg
                  clear hg
                  by_cases hlt : i < N
                  · have hlti : (i : Int) < (N : Int) := by omega
                    have hwi : IntKind.i64.wrap ((i : Int) + 1) = (i : Int) + 1 := IntWalk.i64_in _ (by omega)
                    have hwN : IntKind.i64.wrap ((N : Int) - 1) = (N : Int) - 1 := IntWalk.i64_in _ (by omega)
                    have hir : i < rows.length := by rw [← HP5.out.2.2.2.2]; exact hlt
                    obtain ⟨row, hrow⟩ : ∃ row, rows[i] = row := ⟨_, rfl⟩
                    obtain ⟨rst, hrst⟩ : ∃ rst, rows.drop (i + 1) = rst := ⟨_, rfl⟩
                    have hdr : rows.drop i = row :: rst := by rw [← hrow, ← hrst]; exact List.drop_eq_getElem_cons hir
                    obtain ⟨ni, hni⟩ : ∃ ni, ni = row.length := ⟨_, rfl⟩
                    have HRW : Hid (∀ W, PartsOut W w4.heap.size (.slice (some ⟨G, 0, none⟩) N pc) rows vs → G < W.heap.size ∧ ∃ ai ci, W.cell? ⟨G, i, none⟩ = some (.slice ai ni ci) ∧ ∀ (j : Nat) (hj : j < row.length), ∃ R, ai = some ⟨R, 0, none⟩ ∧ R < W.heap.size ∧ ∀ q, q < 5 → W.cell? ⟨R, j * 5 + q, none⟩ = (row[j].1.cells)[q]?) := Lib.hid (fun W hW => by
                      obtain ⟨h1, ai, ci, h2, h3⟩ := hW.at i hir
                      have h5 : ∀ p ∈ rows[i], p.1.cells.size = 5 := fun p hp => HP5.out.2.1.five p (List.mem_flatten.2 ⟨rows[i], List.getElem_mem hir, hp⟩)
                      have h4 := h3 h5
                      refine ⟨h1, ai, ci, ?_, ?_⟩
                      · rw [hni, ← hrow]; exact h2
                      · subst hrow; exact h4)
                    have HQ5 : Hid (parts31 (es.drop tt) = row.map (·.2) :: rst.map (·.map (·.2))) := Lib.hid (by rw [HQ.out.1 hlt, hdr]; rfl)
                    have HC5 : Hid (Chain wr lo w5.heap.size (row ++ rst.flatten)) := Lib.hid (by have h := HC.out.1; rw [hdr] at h; exact h)
                    have hnin : ni ≤ n := by
                      have h := parts_head _ _ _ HQ5.out
                      rw [List.length_map, ← hni, List.length_drop, HX.out.2.1] at h
                      omega
                    have HNI := Lib.hid (And.intro hni hrst)
                    obtain ⟨GK, hGK⟩ : ∃ GK, GK = gk := ⟨_, rfl⟩
                    have HGK := Lib.hid (And.intro hGK HG4.out)
                    obtain ⟨Gc, ai, ci, z1, _⟩ := HRW.out wr HC.out.2.2.1
                    have hNR := Lib.hid hir
                    clear hrow hrst hdr hni hGK hir HG4
                    go_wp2_with fail
                    go_loopg [23, 25] ni (fun g s23 s25 wr => ∃ (tt j lo : Nat), s23 = .int .i64 tt ∧ s25 = .int .i64 j ∧ tt ≤ n ∧ j ≤ ni ∧ Hid (parts31 (es.drop tt) = (row.drop j).map (·.2) :: rst.map (·.map (·.2))) ∧ Hid (Chain wr lo w5.heap.size (row.drop j ++ rst.flatten) ∧ w4.heap.size ≤ lo ∧ PartsOut wr w4.heap.size (.slice (some ⟨G, 0, none⟩) N pc) rows vs ∧ Fr No w4 wr) ∧ g + j = ni)
                    case atStart => exact ⟨tt, 0, lo, rfl, rfl, htt, by omega, Lib.hid (by rw [List.drop_zero]; exact HQ5.out), Lib.hid ⟨by rw [List.drop_zero]; exact HC5.out, HC.out.2.1, HC.out.2.2.1, HC.out.2.2.2⟩, by omega⟩
                    case round =>
                      clear Gc z1
                      obtain ⟨tt, j, lo, rfl, rfl, htt, hj, HQ, HC, hg⟩ := hrel
                      have HG := Lib.hid hg
                      clear hg
                      obtain ⟨Gc, ai, ci, z1, HR⟩ := HRW.out wr HC.out.2.2.1
                      by_cases hltj : j < ni
                      · have hltj2 : (j : Int) < (ni : Int) := by omega
                        have hwj : IntKind.i64.wrap ((j : Int) + 1) = (j : Int) + 1 := IntWalk.i64_in _ (by omega)
                        have hjr : j < row.length := by rw [← HNI.out.1]; exact hltj
                        obtain ⟨R, rfl, hRs, HRC⟩ := HR j hjr
                        obtain ⟨p, hp⟩ : ∃ p, row[j] = p := ⟨_, rfl⟩
                        have hdj : row.drop j = p :: row.drop (j + 1) := by rw [← hp]; exact List.drop_eq_getElem_cons hjr
                        rw [hp] at HRC
                        have hq := HQ.out
                        have hc := HC.out.1
                        rw [hdj] at hq hc
                        obtain ⟨es', he', hk5, hp'⟩ := parts_cons hq
                        have l1 : tt < es.length := by
                          rcases Nat.lt_or_ge tt es.length with h | h
                          · exact h
                          · rw [List.drop_eq_nil_of_le h] at he'; cases he'
                        have hdt := List.drop_eq_getElem_cons l1
                        rw [hdt] at he'
                        simp only [List.cons.injEq] at he'
                        obtain ⟨heq, rfl⟩ := he'
                        obtain ⟨mid, hm1, hnew, hrest⟩ := hc
                        have htn : tt < n := by rw [← HX.out.2.1]; exact l1
                        have htn2 : (tt : Int) < (n : Int) := by omega
                        have hge : ¬ (n : Int) ≤ (tt : Int) := by omega
                        have hged : decide ((n : Int) ≤ (tt : Int)) = false := decide_eq_false hge
                        have hwt : IntKind.i64.wrap ((tt : Int) + 1) = (tt : Int) + 1 := IntWalk.i64_in _ (by omega)
                        have hlw : Fr No w wr := (HF.out.trans_same HF4.out).trans_same HC.out.2.2.2
                        obtain ⟨b9, off, k, cn, a1, n1, c1, a2, n2, c2, a3, n3, c3, rfl, hb9, ⟨p0, p1, p2, p3, p4⟩, hev, hke, _, _⟩ := (HX.out.1.no hlw).get tt l1
                        have hn5 : ¬ k = 5 := by rw [← hke, heq]; exact hk5
                        have hk5b : (k == 5) = false := by simpa using hn5
                        have hk5d : decide (k = 5) = false := decide_eq_false hn5
                        obtain ⟨kp, cnp, a1p, n1p, c1p, a2p, n2p, c2p, a3p, n3p, c3p, hpv, _⟩ := hnew.at.named
                        rw [hpv] at HRC
                        have r0 := HRC 0 (by decide)
                        have r1 := HRC 1 (by decide)
                        have r2 := HRC 2 (by decide)
                        have r3 := HRC 3 (by decide)
                        have r4 := HRC 4 (by decide)
                        have HSS : Hid (∀ wx, Fr No wr wx → (wx.cell? ⟨b9, off + tt * 5, none⟩ = some (.int .i64 k) ∧ wx.cell? ⟨b9, off + tt * 5 + 1, none⟩ = some (.int .i64 cn) ∧ wx.cell? ⟨b9, off + tt * 5 + 2, none⟩ = some (.slice a1 n1 c1) ∧ wx.cell? ⟨b9, off + tt * 5 + 3, none⟩ = some (.slice a2 n2 c2) ∧ wx.cell? ⟨b9, off + tt * 5 + 4, none⟩ = some (.slice a3 n3 c3) ∧ wx.cell? ⟨G, i, none⟩ = some (.slice (some ⟨R, 0, none⟩) ni ci) ∧ wx.cell? ⟨R, j * 5, none⟩ = some (.int .i64 kp) ∧ wx.cell? ⟨R, j * 5 + 1, none⟩ = some (.int .i64 cnp) ∧ wx.cell? ⟨R, j * 5 + 2, none⟩ = some (.slice a1p n1p c1p) ∧ wx.cell? ⟨R, j * 5 + 3, none⟩ = some (.slice a2p n2p c2p) ∧ wx.cell? ⟨R, j * 5 + 4, none⟩ = some (.slice a3p n3p c3p) ∧ Hid (Fr No wr wx))) := Lib.hid (fun wx hx => ⟨(hx.cell (p := ⟨b9, off + tt * 5, none⟩) hb9 (fun h => h)).trans p0, (hx.cell (p := ⟨b9, off + tt * 5 + 1, none⟩) hb9 (fun h => h)).trans p1, (hx.cell (p := ⟨b9, off + tt * 5 + 2, none⟩) hb9 (fun h => h)).trans p2, (hx.cell (p := ⟨b9, off + tt * 5 + 3, none⟩) hb9 (fun h => h)).trans p3, (hx.cell (p := ⟨b9, off + tt * 5 + 4, none⟩) hb9 (fun h => h)).trans p4, (hx.cell (p := ⟨G, i, none⟩) Gc (fun h => h)).trans z1, (hx.cell (p := ⟨R, j * 5, none⟩) hRs (fun h => h)).trans r0, (hx.cell (p := ⟨R, j * 5 + 1, none⟩) hRs (fun h => h)).trans r1, (hx.cell (p := ⟨R, j * 5 + 2, none⟩) hRs (fun h => h)).trans r2, (hx.cell (p := ⟨R, j * 5 + 3, none⟩) hRs (fun h => h)).trans r3, (hx.cell (p := ⟨R, j * 5 + 4, none⟩) hRs (fun h => h)).trans r4, Lib.hid hx⟩)
                        have hnv := hnew.at
                        rw [hpv] at hnv
                        have HSA : Hid (∀ wx, (wx.cell? ⟨b9, off + tt * 5, none⟩ = some (.int .i64 k) ∧ wx.cell? ⟨b9, off + tt * 5 + 1, none⟩ = some (.int .i64 cn) ∧ wx.cell? ⟨b9, off + tt * 5 + 2, none⟩ = some (.slice a1 n1 c1) ∧ wx.cell? ⟨b9, off + tt * 5 + 3, none⟩ = some (.slice a2 n2 c2) ∧ wx.cell? ⟨b9, off + tt * 5 + 4, none⟩ = some (.slice a3 n3 c3) ∧ wx.cell? ⟨G, i, none⟩ = some (.slice (some ⟨R, 0, none⟩) ni ci) ∧ wx.cell? ⟨R, j * 5, none⟩ = some (.int .i64 kp) ∧ wx.cell? ⟨R, j * 5 + 1, none⟩ = some (.int .i64 cnp) ∧ wx.cell? ⟨R, j * 5 + 2, none⟩ = some (.slice a1p n1p c1p) ∧ wx.cell? ⟨R, j * 5 + 3, none⟩ = some (.slice a2p n2p c2p) ∧ wx.cell? ⟨R, j * 5 + 4, none⟩ = some (.slice a3p n3p c3p) ∧ Hid (Fr No wr wx)) → Calls Tryz.prog 14 #[(.agg #[.int .i64 kp, .int .i64 cnp, .slice a1p n1p c1p, .slice a2p n2p c2p, .slice a3p n3p c3p]), (.agg #[.int .i64 k, .int .i64 cn, .slice a1 n1 c1, .slice a2 n2 c2, .slice a3 n3 c3])] wx fun e w1 => e = .returned (.bool true) ∧ (w1.cell? ⟨b9, off + tt * 5, none⟩ = some (.int .i64 k) ∧ w1.cell? ⟨b9, off + tt * 5 + 1, none⟩ = some (.int .i64 cn) ∧ w1.cell? ⟨b9, off + tt * 5 + 2, none⟩ = some (.slice a1 n1 c1) ∧ w1.cell? ⟨b9, off + tt * 5 + 3, none⟩ = some (.slice a2 n2 c2) ∧ w1.cell? ⟨b9, off + tt * 5 + 4, none⟩ = some (.slice a3 n3 c3) ∧ w1.cell? ⟨G, i, none⟩ = some (.slice (some ⟨R, 0, none⟩) ni ci) ∧ w1.cell? ⟨R, j * 5, none⟩ = some (.int .i64 kp) ∧ w1.cell? ⟨R, j * 5 + 1, none⟩ = some (.int .i64 cnp) ∧ w1.cell? ⟨R, j * 5 + 2, none⟩ = some (.slice a1p n1p c1p) ∧ w1.cell? ⟨R, j * 5 + 3, none⟩ = some (.slice a2p n2p c2p) ∧ w1.cell? ⟨R, j * 5 + 4, none⟩ = some (.slice a3p n3p c3p) ∧ Hid (Fr No wr w1))) := Lib.hid (fun wx h => by
                          have hx := h.2.2.2.2.2.2.2.2.2.2.2.out
                          have hv2 := hev.no hx
                          rw [heq] at hv2
                          refine (rsame_any _ _ p.2 p.2 wx (hnv.no hx) hv2 (by rw [← heq]; exact HSM.out _ (List.getElem_mem l1)) (by rw [← heq]; exact HSM.out _ (List.getElem_mem l1))).mono ?_
                          rintro e w1 ⟨h1, h2⟩
                          exact ⟨by rw [h1, same_self], HSS.out w1 (hx.trans_same h2)⟩)
                        have HSP : Hid (∀ wx, Fr No wr wx → Calls Tryz.prog 30 #[(.agg #[.int .i64 kp, .int .i64 cnp, .slice a1p n1p c1p, .slice a2p n2p c2p, .slice a3p n3p c3p])] wx fun e w1 => e = .returned (.tuple #[]) ∧ Fr (fun k => lo ≤ k ∧ k < mid) wx w1 ∧ Kt 27 wx w1 ∧ Kt 44 wx w1) := Lib.hid (fun wx hx => by
                          have h := spoil_any p.1 p.2 wx lo mid (hnew.kt (Kt3.ofFr hx)) (by rw [← heq]; exact HSH.out _ (List.getElem_mem l1))
                          rw [hpv] at h
                          exact h)
                        have HRE := Lib.hid (And.intro hrest (And.intro hm1 hp'))
                        have hsA := HSS.out wr.drew (Fr.refl No wr).drew
                        clear hq hdt heq hnew hrest hm1 hp' hk5 hke hev hnv hpv hp hdj HRC hjr hn5 r0 r1 r2 r3 r4 p0 p1 p2 p3 p4 z1
                        obtain ⟨p0, p1, p2, p3, p4, z1, r0, r1, r2, r3, r4, _⟩ := HSS.out wr (Fr.refl No wr)
                        go_upto_region 36 with fail
                        go_region_held3 (fun w1 => (w1.cell? ⟨b9, off + tt * 5, none⟩ = some (.int .i64 k) ∧ w1.cell? ⟨b9, off + tt * 5 + 1, none⟩ = some (.int .i64 cn) ∧ w1.cell? ⟨b9, off + tt * 5 + 2, none⟩ = some (.slice a1 n1 c1) ∧ w1.cell? ⟨b9, off + tt * 5 + 3, none⟩ = some (.slice a2 n2 c2) ∧ w1.cell? ⟨b9, off + tt * 5 + 4, none⟩ = some (.slice a3 n3 c3) ∧ w1.cell? ⟨G, i, none⟩ = some (.slice (some ⟨R, 0, none⟩) ni ci) ∧ w1.cell? ⟨R, j * 5, none⟩ = some (.int .i64 kp) ∧ w1.cell? ⟨R, j * 5 + 1, none⟩ = some (.int .i64 cnp) ∧ w1.cell? ⟨R, j * 5 + 2, none⟩ = some (.slice a1p n1p c1p) ∧ w1.cell? ⟨R, j * 5 + 3, none⟩ = some (.slice a2p n2p c2p) ∧ w1.cell? ⟨R, j * 5 + 4, none⟩ = some (.slice a3p n3p c3p) ∧ Hid (Fr No wr w1))) (assumption) (first
                          | (go_at_call 14; refine (HSA.out _ (by assumption)).mono ?_; rintro e' w7 ⟨rfl, hS7⟩))
                        obtain ⟨p0, p1, p2, p3, p4, z1, r0, r1, r2, r3, r4, hx7⟩ := hS7
                        have HX7 := Lib.hid hx7.out
                        clear hx7 hsA
                        go_wp2_with (go_at_call 30; refine (HSP.out _ HX7.out).mono ?_; rintro e8 w8 ⟨rfl, hf8, ke8, kp8⟩)
                        go_roundg (gk - 1)
                        case measure => have := HG.out; omega
                        case rel =>
                          refine ⟨tt + 1, j + 1, mid, by go_num, by go_num, by omega, by omega, Lib.hid HRE.out.2.2, Lib.hid ⟨(HRE.out.1.kt (Kt3.ofFr HX7.out)).far hf8 (Nat.le_refl _), Nat.le_trans HC.out.2.1 HRE.out.2.1, (HC.out.2.2.1.kt (Kt.ofFr HX7.out) (Kt.ofFr HX7.out)).kt ke8 kp8, (HC.out.2.2.2.trans_same HX7.out).trans hf8 (fun x hx h => ?_)⟩, by have := HG.out; omega⟩
                          have h1 := h.1
                          have h2 := HC.out.2.1
                          exact absurd hx (by omega)
                      · have hltj2 : ¬ (j : Int) < (ni : Int) := by omega
                        have hdj : row.drop j = [] := List.drop_eq_nil_of_le (by rw [← HNI.out.1]; omega)
                        have hq := HQ.out
                        have hc := HC.out.1
                        rw [hdj] at hq hc
                        clear hdj HQ
                        cases rst with
                        | nil =>
                          have hes := parts_end hq
                          have htn : tt = n := by
                            have h := List.drop_eq_nil_iff.1 hes
                            rw [HX.out.2.1] at h
                            omega
                          have hiN : i + 1 = N := by
                            have h := List.drop_eq_nil_iff.1 HNI.out.2
                            rw [← HP5.out.2.2.2.2] at h
                            omega
                          have hlast : ¬ (i : Int) < (N : Int) - 1 := by omega
                          have HH := Lib.hid (And.intro htn (And.intro hiN hc))
                          clear hes htn hiN hq hc
                          go_wp2_with fail
                          go_roundg (GK - 1)
                          case measure => have := HGK.out; omega
                          case rel => exact ⟨tt, i + 1, lo, rfl, by go_num, htt, by omega, Lib.hid ⟨fun h => absurd h (by have := HH.out.2.1; omega), fun _ => HH.out.1⟩, Lib.hid ⟨by rw [HNI.out.2]; exact HH.out.2.2, HC.out.2.1, HC.out.2.2.1, HC.out.2.2.2⟩, by have := HGK.out; omega⟩
                        | cons p1 ps1 =>
                          obtain ⟨cr, es', he', hk5, hp'⟩ := parts_crash hq
                          have l1 : tt < es.length := by
                            rcases Nat.lt_or_ge tt es.length with h | h
                            · exact h
                            · rw [List.drop_eq_nil_of_le h] at he'; cases he'
                          have hdt := List.drop_eq_getElem_cons l1
                          rw [hdt] at he'
                          simp only [List.cons.injEq] at he'
                          obtain ⟨heq, rfl⟩ := he'
                          have htn : tt < n := by rw [← HX.out.2.1]; exact l1
                          have htn2 : (tt : Int) < (n : Int) := by omega
                          have hge : ¬ (n : Int) ≤ (tt : Int) := by omega
                          have hged : decide ((n : Int) ≤ (tt : Int)) = false := decide_eq_false hge
                          have hwt : IntKind.i64.wrap ((tt : Int) + 1) = (tt : Int) + 1 := IntWalk.i64_in _ (by omega)
                          have hlw : Fr No w wr := (HF.out.trans_same HF4.out).trans_same HC.out.2.2.2
                          obtain ⟨b9, off, k, cn, a1, n1, c1, a2, n2, c2, a3, n3, c3, rfl, hb9, ⟨q0, _, _, _, _⟩, _, hke, _, _⟩ := (HX.out.1.no hlw).get tt l1
                          have hn5 : k = 5 := by rw [← hke, heq]; exact hk5
                          rw [hn5] at q0
                          have hiN : i + 1 < N := by
                            have h : (rows.drop (i + 1)).length = ps1.length + 1 := by rw [HNI.out.2]; rfl
                            rw [List.length_drop, ← HP5.out.2.2.2.2] at h
                            omega
                          have hlast : (i : Int) < (N : Int) - 1 := by omega
                          have HH := Lib.hid (And.intro hp' (And.intro hiN hc))
                          clear hdt heq hk5 hke hn5 hp' hiN hc hq
                          go_wp2_with fail
                          go_roundg (GK - 1)
                          case measure => have := HGK.out; omega
                          case rel => exact ⟨tt + 1, i + 1, lo, by go_num, by go_num, by omega, by omega, Lib.hid ⟨fun _ => by rw [HNI.out.2]; exact HH.out.1, fun h => absurd h (by have := HH.out.2.1; omega)⟩, Lib.hid ⟨by rw [HNI.out.2]; exact HH.out.2.2, HC.out.2.1, HC.out.2.2.1, HC.out.2.2.2⟩, by have := HGK.out; omega⟩
                  · have hlti : ¬ (i : Int) < (N : Int) := by omega
                    have htn : tt = n := HQ.out.2 (by omega)
                    have hN0 : (0 : Int) < (N : Int) := by omega
                    have HFE := Lib.hid HC.out.2.2.2
                    rw [htn]
                    clear HQ HC HG4 hlt htn htt
                    go_wp2_with fail
                    go_loopg [26] n (fun g s26 wr => ∃ i : Nat, s26 = .int .i64 i ∧ i ≤ n ∧ Hid (Fr No w4 wr) ∧ g + i = n)
                    case atStart => exact ⟨0, rfl, by omega, HFE, by omega⟩
                    case round =>
                      obtain ⟨i, rfl, hi, HF7, hg⟩ := hrel
                      have HG := Lib.hid hg
                      clear hg
                      have hlw : Fr No w wr := (HF.out.trans_same HF4.out).trans_same HF7.out
                      by_cases hlt : i < n
                      · have hlti : (i : Int) < (n : Int) := by omega
                        have hwi : IntKind.i64.wrap ((i : Int) + 1) = (i : Int) + 1 := IntWalk.i64_in _ (by omega)
                        have l1 : i < es.length := by rw [HX.out.2.1]; exact hlt
                        obtain ⟨b9, off, k, cn, a1, n1, c1, a2, n2, c2, a3, n3, c3, rfl, hb9, ⟨p0, p1, p2, p3, p4⟩, hev, _⟩ := (HX.out.1.no hlw).get i l1
                        obtain ⟨b8, of8, km, cnm, a1m, n1m, c1m, a2m, n2m, c2m, a3m, n3m, c3m, rfl, hb8, ⟨q0, q1, q2, q3, q4⟩, hkp⟩ := (HKS.out.no (HF4.out.trans_same HF7.out)).get i l1
                        have HSS : Hid (∀ wx, Fr No wr wx → (wx.cell? ⟨b9, off + i * 5, none⟩ = some (.int .i64 k) ∧ wx.cell? ⟨b9, off + i * 5 + 1, none⟩ = some (.int .i64 cn) ∧ wx.cell? ⟨b9, off + i * 5 + 2, none⟩ = some (.slice a1 n1 c1) ∧ wx.cell? ⟨b9, off + i * 5 + 3, none⟩ = some (.slice a2 n2 c2) ∧ wx.cell? ⟨b9, off + i * 5 + 4, none⟩ = some (.slice a3 n3 c3) ∧ wx.cell? ⟨b8, of8 + i * 5, none⟩ = some (.int .i64 km) ∧ wx.cell? ⟨b8, of8 + i * 5 + 1, none⟩ = some (.int .i64 cnm) ∧ wx.cell? ⟨b8, of8 + i * 5 + 2, none⟩ = some (.slice a1m n1m c1m) ∧ wx.cell? ⟨b8, of8 + i * 5 + 3, none⟩ = some (.slice a2m n2m c2m) ∧ wx.cell? ⟨b8, of8 + i * 5 + 4, none⟩ = some (.slice a3m n3m c3m) ∧ Hid (Fr No wr wx))) := Lib.hid (fun wx hx => ⟨(hx.cell (p := ⟨b9, off + i * 5, none⟩) hb9 (fun h => h)).trans p0, (hx.cell (p := ⟨b9, off + i * 5 + 1, none⟩) hb9 (fun h => h)).trans p1, (hx.cell (p := ⟨b9, off + i * 5 + 2, none⟩) hb9 (fun h => h)).trans p2, (hx.cell (p := ⟨b9, off + i * 5 + 3, none⟩) hb9 (fun h => h)).trans p3, (hx.cell (p := ⟨b9, off + i * 5 + 4, none⟩) hb9 (fun h => h)).trans p4, (hx.cell (p := ⟨b8, of8 + i * 5, none⟩) hb8 (fun h => h)).trans q0, (hx.cell (p := ⟨b8, of8 + i * 5 + 1, none⟩) hb8 (fun h => h)).trans q1, (hx.cell (p := ⟨b8, of8 + i * 5 + 2, none⟩) hb8 (fun h => h)).trans q2, (hx.cell (p := ⟨b8, of8 + i * 5 + 3, none⟩) hb8 (fun h => h)).trans q3, (hx.cell (p := ⟨b8, of8 + i * 5 + 4, none⟩) hb8 (fun h => h)).trans q4, Lib.hid hx⟩)
                        have HKP : Hid (∀ wx, (wx.cell? ⟨b9, off + i * 5, none⟩ = some (.int .i64 k) ∧ wx.cell? ⟨b9, off + i * 5 + 1, none⟩ = some (.int .i64 cn) ∧ wx.cell? ⟨b9, off + i * 5 + 2, none⟩ = some (.slice a1 n1 c1) ∧ wx.cell? ⟨b9, off + i * 5 + 3, none⟩ = some (.slice a2 n2 c2) ∧ wx.cell? ⟨b9, off + i * 5 + 4, none⟩ = some (.slice a3 n3 c3) ∧ wx.cell? ⟨b8, of8 + i * 5, none⟩ = some (.int .i64 km) ∧ wx.cell? ⟨b8, of8 + i * 5 + 1, none⟩ = some (.int .i64 cnm) ∧ wx.cell? ⟨b8, of8 + i * 5 + 2, none⟩ = some (.slice a1m n1m c1m) ∧ wx.cell? ⟨b8, of8 + i * 5 + 3, none⟩ = some (.slice a2m n2m c2m) ∧ wx.cell? ⟨b8, of8 + i * 5 + 4, none⟩ = some (.slice a3m n3m c3m) ∧ Hid (Fr No wr wx)) → Calls Tryz.prog 12 #[(.agg #[.int .i64 km, .int .i64 cnm, .slice a1m n1m c1m, .slice a2m n2m c2m, .slice a3m n3m c3m]), (.agg #[.int .i64 k, .int .i64 cn, .slice a1 n1 c1, .slice a2 n2 c2, .slice a3 n3 c3])] wx fun e w1 => e = .returned (.bool true) ∧ (w1.cell? ⟨b9, off + i * 5, none⟩ = some (.int .i64 k) ∧ w1.cell? ⟨b9, off + i * 5 + 1, none⟩ = some (.int .i64 cn) ∧ w1.cell? ⟨b9, off + i * 5 + 2, none⟩ = some (.slice a1 n1 c1) ∧ w1.cell? ⟨b9, off + i * 5 + 3, none⟩ = some (.slice a2 n2 c2) ∧ w1.cell? ⟨b9, off + i * 5 + 4, none⟩ = some (.slice a3 n3 c3) ∧ w1.cell? ⟨b8, of8 + i * 5, none⟩ = some (.int .i64 km) ∧ w1.cell? ⟨b8, of8 + i * 5 + 1, none⟩ = some (.int .i64 cnm) ∧ w1.cell? ⟨b8, of8 + i * 5 + 2, none⟩ = some (.slice a1m n1m c1m) ∧ w1.cell? ⟨b8, of8 + i * 5 + 3, none⟩ = some (.slice a2m n2m c2m) ∧ w1.cell? ⟨b8, of8 + i * 5 + 4, none⟩ = some (.slice a3m n3m c3m) ∧ Hid (Fr No wr w1))) := Lib.hid (fun wx h => by
                          have hx := h.2.2.2.2.2.2.2.2.2.2.out
                          refine (kept_any _ _ es[i] wx (hkp.no hx) (hev.no hx) (HSM.out _ (List.getElem_mem l1))).mono ?_
                          rintro e w1 ⟨h1, h2⟩
                          exact ⟨h1, HSS.out w1 (hx.trans_same h2)⟩)
                        have hsA := HSS.out wr.drew (Fr.refl No wr).drew
                        clear hev hkp hlt
                        go_upto_region 47 with fail
                        go_region_held3 (fun w1 => (w1.cell? ⟨b9, off + i * 5, none⟩ = some (.int .i64 k) ∧ w1.cell? ⟨b9, off + i * 5 + 1, none⟩ = some (.int .i64 cn) ∧ w1.cell? ⟨b9, off + i * 5 + 2, none⟩ = some (.slice a1 n1 c1) ∧ w1.cell? ⟨b9, off + i * 5 + 3, none⟩ = some (.slice a2 n2 c2) ∧ w1.cell? ⟨b9, off + i * 5 + 4, none⟩ = some (.slice a3 n3 c3) ∧ w1.cell? ⟨b8, of8 + i * 5, none⟩ = some (.int .i64 km) ∧ w1.cell? ⟨b8, of8 + i * 5 + 1, none⟩ = some (.int .i64 cnm) ∧ w1.cell? ⟨b8, of8 + i * 5 + 2, none⟩ = some (.slice a1m n1m c1m) ∧ w1.cell? ⟨b8, of8 + i * 5 + 3, none⟩ = some (.slice a2m n2m c2m) ∧ w1.cell? ⟨b8, of8 + i * 5 + 4, none⟩ = some (.slice a3m n3m c3m) ∧ Hid (Fr No wr w1))) (assumption) (first
                          | (go_at_call 12; refine (HKP.out _ (by assumption)).mono ?_; rintro e' w7 ⟨rfl, hS7⟩))
                        have HX7 := Lib.hid hS7.2.2.2.2.2.2.2.2.2.2.out
                        clear hS7 hsA
                        go_wp2_with fail
                        go_roundg (gk - 1)
                        case measure => have := HG.out; omega
                        case rel => exact ⟨i + 1, by go_num, by omega, Lib.hid (HF7.out.trans_same HX7.out), by have := HG.out; omega⟩
                      · have hlti : ¬ (i : Int) < (n : Int) := by omega
                        have HLW := Lib.hid hlw
                        clear hlw
                        go_wp2_with (go_at_call 7; refine (HWK.out _ HLW.out).mono ?_; rintro e3 w3' ⟨rfl, hf3⟩)
                        go_ret
                        exact ⟨rfl, HLW.out.trans_same hf3⟩
end Go.Proofs.YtjidpccgjiogbaaGreatDoor
