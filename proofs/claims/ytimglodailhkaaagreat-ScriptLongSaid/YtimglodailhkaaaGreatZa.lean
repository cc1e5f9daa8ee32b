/-
  The program's Text of events that may be: all of it, or it is too long.
-/
import Derived.Test.YtimglodailhkaaaGreatYb
namespace Go.Proofs.YtimglodailhkaaaGreat
open Go Go.RowKit
theorem line_may_len {e : Ev} (hm : may31 e = true) (hn : e.nums) : (line31 e).length ≤ 2200000 := by
  have hs := hm
  unfold may31 at hs
  simp only [Bool.and_eq_true, decide_eq_true_eq] at hs
  obtain ⟨⟨⟨⟨⟨⟨⟨⟨⟨_, _⟩, h1⟩, h2⟩, h3⟩, _⟩, _⟩, _⟩, _⟩, _⟩ := hs
  have c := itoa_small e.conn hn.conn
  have x := hex31_len e.bytes
  have f := fates_len e.fates hn.fates
  have p := picks_len e.picks hn.picks
  unfold line31
  split
  · decide
  split
  · simp [sendB]; omega
  split
  · simp [closeB]; omega
  split
  · rw [List.length_append]; simp only [feedB, List.length_cons, List.length_nil]; omega
  · rw [List.length_append]; simp only [crashB, List.length_cons, List.length_nil]; omega
theorem lines_le (es : List Ev) (i : Nat) : (lines31 (es.take i)).length ≤ (lines31 es).length := by
  have h : lines31 es = lines31 (es.take i) ++ lines31 (es.drop i) := by
    unfold lines31
    rw [← List.flatMap_append, List.take_append_drop]
  rw [h, List.length_append]
  omega
/-- The text of events that may be: all of it, or it is too long. -/
def textR (es : List Ev) : Bytes × Int × Int := if 16777216 < (lines31 es).length then ([], 0, 3) else (lines31 es, es.length, 0)
set_option maxHeartbeats 4000000 in
set_option maxRecDepth 100000 in
/-- The program's Text of events that may be: all of it, or it is too long. -/
theorem stextG_any (a : Option Addr) (c n : Nat) (es : List Ev) (w : World) (hn : es.length = n) (hl : EvsAt w a es) (hs : ∀ e ∈ es, may31 e = true ∧ e.nums ∧ TabE e w) (hbig : n ≤ 65536) :
    Calls Tryz.prog 4 #[.slice a n c] w fun e w' => e = .returned (.tuple #[.string (strB (textR es).1), .int .i64 (textR es).2.1, .int .i64 (textR es).2.2]) ∧ Fr No w w' := by
  have HX := Lib.hid (And.intro hl (And.intro hn hs))
  have hb : badAt es = none := badAt_none (fun j hj => (hs _ (List.getElem_mem hj)).1)
  have HI := firstBad_any a c n es w hn hl (fun e he => may_small (hs e he).1) (by omega)
  have hbig2 : ¬ (65536 : Int) < (n : Int) := by omega
  clear hl hn hs
  rw [show badNum es = -1 by unfold badNum; rw [hb]] at HI
  have HI := Lib.hid HI
  clear hb
  go_enter Tryz.func4, Tryz.ntmps4
  go_upto_region 6 with (go_at_call 12; refine HI.out.mono ?_; rintro e1 w1 ⟨rfl, hf1⟩)
  obtain ⟨b, hbb⟩ : ∃ b, b = w1.heap.size := ⟨_, rfl⟩
  obtain ⟨W1, hW1⟩ : ∃ W1, W1 = w1.alloc (.cells #[.pointer none, .slice none 0 0] 48) := ⟨_, rfl⟩
  have hB1 : W1.heap[b]? = some (.cells #[.pointer none, .slice none 0 0] 48 (0, 0)) := by rw [hW1, hbb]; exact heap_alloc_new w1 _
  have hwb : w.heap.size ≤ b := by rw [hbb]; exact hf1.size
  have HIB : Hid (IsB 48 w.heap.size b [] W1 ∧ Below w.heap.size w W1) := Lib.hid ⟨.inl ⟨hwb, _, hB1, World.ownsRow_nil _ _ _ _, by simp [Value.ownBlock]⟩, by
    rw [hW1]; exact (hf1.alloc _).toBelow⟩
  have HWB := Lib.hid hwb
  have hWE := Lib.hid hW1
  have hBE := Lib.hid hbb
  clear hB1 hwb hf1 hW1 hbb
  go_upto_region 7 with fail
  rw [← hBE.out, ← hWE.out]
  go_wp2_with fail
  go_loopg [8, 19] n (fun g _ s19 wr => ∃ i : Nat, s19 = .int .i64 i ∧ i ≤ n ∧ Hid (IsB 48 w.heap.size b (lines31 (es.take i)) wr ∧ Below w.heap.size w wr) ∧ Hid ((lines31 (es.take i)).length ≤ 16777216) ∧ g + i = n)
  case atStart => exact ⟨0, rfl, by omega, HIB, Lib.hid (by simp [lines31]), by omega⟩
  case round =>
    obtain ⟨i, rfl, hi, HF, HP, hg⟩ := hrel
    have HG := Lib.hid hg
    clear hg
    by_cases hlt : i < n
    · have hlti : (i : Int) < (n : Int) := by omega
      have l1 : i < es.length := by rw [HX.out.2.1]; exact hlt
      have hfr := Fr.ofBelow HF.out.2
      obtain ⟨e, he⟩ : ∃ e, e = es[i] := ⟨_, rfl⟩
      obtain ⟨b9, off, k, cn, a1, n1, c1, a2, n2, c2, a3, n3, c3, rfl, hb9, ⟨p0, p1, p2, p3, p4⟩, hev, _⟩ := (HX.out.1.no hfr).get i l1
      rw [← he] at hev
      obtain ⟨W2, hW2⟩ : ∃ W2, W2 = wr.alloc (.cells #[.int .i64 k, .int .i64 cn, .slice a1 n1 c1, .slice a2 n2 c2, .slice a3 n3 c3] 28) := ⟨_, rfl⟩
      obtain ⟨E, hE⟩ : ∃ E, E = wr.heap.size := ⟨_, rfl⟩
      have hn2 : Fr No wr W2 := by rw [hW2]; exact (Fr.refl _ _).alloc _
      have hE2 : W2.heap[E]? = some (.cells #[.int .i64 k, .int .i64 cn, .slice a1 n1 c1, .slice a2 n2 c2, .slice a3 n3 c3] 28 (0, 0)) := by rw [hW2, hE]; exact heap_alloc_new wr _
      obtain ⟨⟨q0, q1, q2, q3, q4⟩, _⟩ := res_cells hE2
      have hls := HX.out.2.2 e (by rw [he]; exact List.getElem_mem l1)
      have HT := Lib.hid (told_any _ e W2 (hev.no hn2) hls.1 hls.2.1 (hls.2.2.fr (hfr.trans_same hn2)))
      have hnel : (line31 e).length ≤ 2200000 := line_may_len hls.1 hls.2.1
      have hpre := HP.out
      obtain ⟨L, hL⟩ : ∃ L, L = lines31 (es.take i) := ⟨_, rfl⟩
      obtain ⟨l, hl⟩ : ∃ l, l = line31 e := ⟨_, rfl⟩
      rw [← hl] at HT hnel
      rw [← hL] at hpre
      obtain ⟨Y, hY⟩ : ∃ Y, Y = strB (l ++ [10]) := ⟨_, rfl⟩
      obtain ⟨SL, hSL⟩ : ∃ SL, SL = strB l := ⟨_, rfl⟩
      rw [← hSL] at HT
      have hslz : SL.size ≤ 2200000 := by rw [hSL, strB_size]; exact hnel
      have z1 : (⟨#[10]⟩ : ByteArray).size = 1 := rfl
      have HAPP : Hid (SL ++ (⟨#[10]⟩ : ByteArray) = Y) := Lib.hid (by rw [hY, hSL]; exact strB_app l [10])
      have hYs : Y.size = l.length + 1 := by rw [hY, strB_size]; simp
      have HW := Lib.hid (fun wx (hx : Fr No W2 wx) => writeString_any w.heap.size b L Y wx bu_builder (((by rw [hL]; exact HF.out.1 : IsB 48 w.heap.size b L wr).no hn2).no hx) (by omega) (Nat.le_trans HF.out.2.size (Nat.le_trans hn2.size hx.size)))
      have HLEN := Lib.hid (fun wx (hx : IsB 48 w.heap.size b (L ++ Y.data.toList) wx) => Tryz.Builder_Len w.heap.size b _ wx hx)
      obtain ⟨z, hzz⟩ : ∃ z : Nat, z = (Lib.byteCells (L ++ Y.data.toList)).length := ⟨_, rfl⟩
      rw [← hzz] at HLEN
      have HN2 := Lib.hid (And.intro hfr hn2)
      have HEQ : Hid (L ++ Y.data.toList = lines31 (es.take (i + 1))) := Lib.hid (by rw [hY, strB_list, lines_take es i l1, hL, hl, he, List.append_assoc])
      have HZ : Hid (z = (lines31 (es.take (i + 1))).length) := Lib.hid (by rw [hzz, Lib.byteCells_length, HEQ.out])
      have HWE2 := Lib.hid (And.intro hE hW2)
      clear hzz hYs hY hSL hl hL hpre hnel hls hE2 hn2 hE hW2 hev he hfr
      by_cases hbz : 16777216 < z
      · have hbz2 : (16777216 : Int) < (z : Int) := by omega
        have HA : Hid (textR es = ([], 0, 3)) := Lib.hid (by
          unfold textR
          have h := lines_le es (i + 1)
          rw [if_pos (by have := HZ.out; omega)])
        clear hbz
        go_upto_region 10 with fail
        rw [← HWE2.out.1, ← HWE2.out.2]
        go_wp2_with (first
          | (go_at_call 15; refine HT.out.mono ?_; rintro e2 w2 ⟨rfl, hf2⟩)
          | (go_at_call 14; rw [HAPP.out]; refine (HW.out _ hf2).mono ?_; rintro e3 w3 ⟨rfl, hb3, hbl3, _⟩)
          | (go_at_call 16; refine (HLEN.out _ hb3).mono ?_; rintro e4 w4 ⟨rfl, rfl⟩))
        go_ret3
        exact ⟨by rw [HA.out]; rfl, Fr.ofBelow ((HF.out.2.trans ((HN2.out.2.trans_same hf2).toBelow.mono HF.out.2.size)).trans hbl3)⟩
      · have hbz2 : ¬ (16777216 : Int) < (z : Int) := by omega
        go_upto_region 10 with fail
        rw [← HWE2.out.1, ← HWE2.out.2]
        go_wp2_with (first
          | (go_at_call 15; refine HT.out.mono ?_; rintro e2 w2 ⟨rfl, hf2⟩)
          | (go_at_call 14; rw [HAPP.out]; refine (HW.out _ hf2).mono ?_; rintro e3 w3 ⟨rfl, hb3, hbl3, _⟩)
          | (go_at_call 16; refine (HLEN.out _ hb3).mono ?_; rintro e4 w4 ⟨rfl, rfl⟩))
        go_roundg (gk - 1)
        case measure => have := HG.out; omega
        case rel =>
          refine ⟨i + 1, by go_num, by omega, Lib.hid ⟨by rw [← HEQ.out]; exact hb3, ?_⟩, Lib.hid (by have := HZ.out; omega), by have := HG.out; omega⟩
          exact (HF.out.2.trans ((HN2.out.2.trans_same hf2).toBelow.mono HF.out.2.size)).trans hbl3
    · have hlti : ¬ (i : Int) < (n : Int) := by omega
      obtain rfl : i = n := by omega
      have HST := Lib.hid (Tryz.Builder_String_any w.heap.size b (lines31 (es.take i)) wr HF.out.1 HF.out.2.size)
      have HA : Hid (textR es = (lines31 es, (es.length : Int), 0)) := Lib.hid (by
        have h := HP.out
        rw [List.take_of_length_le (by rw [HX.out.2.1]; omega)] at h
        unfold textR
        rw [if_neg (by omega)])
      have HLL : Hid (lines31 (es.take i) = lines31 es) := Lib.hid (by rw [List.take_of_length_le (by rw [HX.out.2.1]; omega)])
      go_wp2_with (go_at_call 17; refine HST.out.mono ?_; rintro e5 w5 ⟨rfl, hb5⟩)
      go_ret3
      exact ⟨by rw [HA.out, HLL.out, HX.out.2.1]; rfl, Fr.ofBelow (HF.out.2.trans hb5)⟩
end Go.Proofs.YtimglodailhkaaaGreat
