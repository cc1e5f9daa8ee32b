/-
  Scripts in plain terms; IndexFunc at events; the document's Text walked.
-/
/-
  The program's Text walked.
-/
import Derived.Test.YtjidpccgjiogbaaGreatDoorLw
import Derived.Deep.LoopGhost
namespace Go.Proofs.YtjidpccgjiogbaaGreatDoor
open Go Go.RowKit
/-- The first event that may not be. -/
def badAt (es : List Ev) : Option Nat := es.findIdx? (fun e => !may31 e)
def lines31 (es : List Ev) : Bytes := es.flatMap (fun e => line31 e ++ [10])
theorem badAt_some {es : List Ev} {i : Nat} (hi : i < es.length) (h : may31 es[i] = false) (hlt : ∀ (j : Nat) (hj : j < es.length), j < i → may31 es[j] = true) : badAt es = some i := by
  unfold badAt
  rw [List.findIdx?_eq_some_iff_getElem]
  exact ⟨hi, by simp [h], fun j hj => by simp [hlt j (by omega) hj]⟩
theorem badAt_none {es : List Ev} (h : ∀ (j : Nat) (hj : j < es.length), may31 es[j] = true) : badAt es = none := by
  unfold badAt
  rw [List.findIdx?_eq_none_iff]
  intro x hx
  obtain ⟨j, hj, rfl⟩ := List.mem_iff_getElem.1 hx
  simp [h j hj]
theorem badAt_none_iff {es : List Ev} (h : badAt es = none) (j : Nat) (hj : j < es.length) : may31 es[j] = true := by
  unfold badAt at h
  rw [List.findIdx?_eq_none_iff] at h
  have := h es[j] (List.getElem_mem hj)
  simpa using this
theorem lines_take (es : List Ev) (i : Nat) (h : i < es.length) : lines31 (es.take (i + 1)) = lines31 (es.take i) ++ line31 es[i] ++ [10] := by
  unfold lines31
  rw [take_flat _ es i h, List.append_assoc]
/-- What a script's text is: its bytes, a number, an error's number. -/
def text31 (es : List Ev) : Bytes × Int × Int := match badAt es with
  | some i => ([], i, 410)
  | none => (lines31 es, es.length, 0)
theorem hex31_len (l : Bytes) : (hex31 l).length ≤ 2 * l.length + 1 := by
  unfold hex31
  split
  · simp
  · rw [hex_len]; omega
/-- The same, as IndexFunc tells it. -/
def badNum (es : List Ev) : Int := match badAt es with
  | some i => i
  | none => -1
theorem line_short {e : Ev} (hl : isLong e = false) (hn : e.nums) : (line31 e).length ≤ 41000 := by
  obtain ⟨h1, h2, h3⟩ := short_small hl
  have c := itoa_small e.conn hn.conn
  have x := hex31_len e.bytes
  have f := fates_len e.fates hn.fates
  have p := picks_len e.picks hn.picks
  unfold line31
  split
  · decide
  split
  · simp [sendB]; omega
  split
  · simp [closeB]; omega
  split
  · rw [List.length_append]; simp only [feedB, List.length_cons, List.length_nil]; omega
  · rw [List.length_append]; simp only [crashB, List.length_cons, List.length_nil]; omega
theorem lines_short : ∀ (es : List Ev), (∀ e ∈ es, isLong e = false ∧ e.nums) → (lines31 es).length ≤ 41001 * es.length := by
  intro es
  induction es with
  | nil => intro _; simp [lines31]
  | cons e es ih =>
    intro h
    have h1 := line_short (h e (by simp)).1 (h e (by simp)).2
    have h2 := ih (fun x hx => h x (by simp [hx]))
    unfold lines31 at h2 ⊢
    rw [List.flatMap_cons, List.length_append, List.length_append]
    simp only [List.length_cons, List.length_nil]
    omega
/-- An event of a slice: its cells, its value. -/
theorem EvsAt.get {w : World} {a : Option Addr} {es : List Ev} (h : EvsAt w a es) (i : Nat) (hi : i < es.length) :
    ∃ b off k cn a1 n1 c1 a2 n2 c2 a3 n3 c3, a = some ⟨b, off, none⟩ ∧ b < w.heap.size ∧
      (w.cell? ⟨b, off + i * 5, none⟩ = some (.int .i64 k) ∧ w.cell? ⟨b, off + i * 5 + 1, none⟩ = some (.int .i64 cn) ∧ w.cell? ⟨b, off + i * 5 + 2, none⟩ = some (.slice a1 n1 c1) ∧ w.cell? ⟨b, off + i * 5 + 3, none⟩ = some (.slice a2 n2 c2) ∧ w.cell? ⟨b, off + i * 5 + 4, none⟩ = some (.slice a3 n3 c3)) ∧
      EvAt w (.agg #[.int .i64 k, .int .i64 cn, .slice a1 n1 c1, .slice a2 n2 c2, .slice a3 n3 c3]) es[i] ∧ es[i].kind = k ∧ es[i].conn = cn ∧ es[i].bytes.length = n1 := by
  rcases h with h | ⟨b, off, e, hb, hc⟩
  · rw [h] at hi; exact absurd hi (Nat.not_lt_zero _)
  · obtain ⟨a1, c1, a2, c2, a3, c3, hp, x1, x2, x3⟩ := hc i hi
    exact ⟨b, off, _, _, a1, _, c1, a2, _, c2, a3, _, c3, e, hb, hp, ⟨a1, c1, a2, c2, a3, c3, rfl, x1, x2, x3⟩, rfl, rfl, rfl⟩
theorem EvsAt.fr {X : Nat → Prop} {w w' : World} {a : Option Addr} {es : List Ev} (h : EvsAt w a es) (hf : Fr X w w') (hX : ∀ k, k < w.heap.size → ¬ X k) : EvsAt w' a es := by
  rcases h with h | ⟨b, off, e, hb, hc⟩
  · exact .inl h
  · refine .inr ⟨b, off, e, Nat.lt_of_lt_of_le hb hf.size, fun i hi => ?_⟩
    obtain ⟨a1, c1, a2, c2, a3, c3, ⟨p0, p1, p2, p3, p4⟩, x1, x2, x3⟩ := hc i hi
    have hf' : Fr No w w' := ⟨hf.os, hf.tape, hf.output, hf.size, fun k hk _ => hf.block k hk (hX k hk)⟩
    exact ⟨a1, c1, a2, c2, a3, c3, ⟨(hf.cell hb (hX b hb)).trans p0, (hf.cell hb (hX b hb)).trans p1, (hf.cell hb (hX b hb)).trans p2, (hf.cell hb (hX b hb)).trans p3, (hf.cell hb (hX b hb)).trans p4⟩, x1.no hf', x2.no hf', x3.no hf'⟩
theorem EvsAt.no {w w' : World} {a : Option Addr} {es : List Ev} (h : EvsAt w a es) (hf : Fr No w w') : EvsAt w' a es := h.fr hf (fun _ _ h => h)
/-- Text's predicate. -/
theorem text1_any (v : Value) (e : Ev) (w : World) (hv : EvAt w v e) (he : e.small) :
    Calls Tryz.prog 51 #[v] w fun en w' => en = .returned (.bool (!may31 e)) ∧ Fr No w w' := by
  obtain ⟨k, cn, a1, n1, c1, a2, n2, c2, a3, n3, c3, rfl, _⟩ := hv.named
  obtain ⟨W1, hW1⟩ : ∃ W1, W1 = w.alloc (.cells #[.int .i64 k, .int .i64 cn, .slice a1 n1 c1, .slice a2 n2 c2, .slice a3 n3 c3] 27) := ⟨_, rfl⟩
  have hf1 : Fr No w W1 := by rw [hW1]; exact (Fr.refl _ _).alloc _
  have hC := check_any _ e W1 (hv.no hf1) he
  obtain ⟨⟨p0, p1, p2, p3, p4⟩, _⟩ := res_cells (W := W1) (by rw [hW1]; exact heap_alloc_new w _)
  have HF := Lib.hid hf1
  have HW := Lib.hid hW1
  clear hW1 hf1 hv
  cases hm : may31 e with
  | true =>
    rw [hm, if_pos rfl] at hC
    have HC := Lib.hid hC
    clear hC
    go_enter Tryz.func51, Tryz.ntmps51
    go_upto_region 1 with fail
    rw [← HW.out]
    go_wp2_with (go_at_call 17; refine HC.out.mono ?_; rintro e1 w1 ⟨rfl, hf⟩)
    go_ret
    exact ⟨rfl, HF.out.trans_same hf⟩
  | false =>
    rw [hm, if_neg (by decide)] at hC
    have HC := Lib.hid hC
    clear hC
    go_enter Tryz.func51, Tryz.ntmps51
    go_upto_region 1 with fail
    rw [← HW.out]
    go_wp2_with (go_at_call 17; refine HC.out.mono ?_; rintro e1 w1 ⟨rfl, hf⟩)
    go_ret
    exact ⟨rfl, HF.out.trans_same hf⟩
set_option maxHeartbeats 4000000 in
set_option maxRecDepth 100000 in
theorem firstBad_any (a : Option Addr) (c n : Nat) (es : List Ev) (w : World) (hn : es.length = n) (hl : EvsAt w a es) (hs : ∀ e ∈ es, e.small) (hbig : n ≤ 1000000000) :
    Calls Tryz.prog 50 #[.slice a n c, .func (.func 51) #[] #[]] w fun e w' => e = .returned (.int .i64 (badNum es)) ∧ Fr No w w' := by
  have HX := Lib.hid (And.intro hl (And.intro hn hs))
  clear hl hn hs
  go_enter Tryz.func50, Tryz.ntmps50
  go_wp2_with fail
  go_loopg [5, 8] n (fun g _ s8 wr => ∃ i : Nat, s8 = .int .i64 i ∧ i ≤ n ∧ Hid (Fr No w wr) ∧ Hid (∀ (j : Nat) (hj : j < es.length), j < i → may31 es[j] = true) ∧ g + i = n)
  case atStart => exact ⟨0, rfl, by omega, Lib.hid (Fr.refl _ _), Lib.hid (fun _ _ h => absurd h (Nat.not_lt_zero _)), by omega⟩
  case round =>
    obtain ⟨i, rfl, hi, HF, HR, hg⟩ := hrel
    have HG := Lib.hid hg
    clear hg
    by_cases hlt : i < n
    · have hlti : (i : Int) < (n : Int) := by omega
      have l1 : i < es.length := by rw [HX.out.2.1]; exact hlt
      obtain ⟨b, off, k, cn, a1, n1, c1, a2, n2, c2, a3, n3, c3, rfl, hb, ⟨p0, p1, p2, p3, p4⟩, hev, _⟩ := (HX.out.1.no HF.out).get i l1
      have HC := Lib.hid (text1_any _ es[i] wr hev (HX.out.2.2 _ (List.getElem_mem l1)))
      clear hev
      cases hq : may31 es[i] with
      | false =>
        rw [hq] at HC
        have HA : Hid (badNum es = i) := Lib.hid (by unfold badNum; rw [badAt_some l1 hq HR.out])
        clear hq
        go_wp2_with fail
        refine HC.out.mono ?_
        rintro e1 w1 ⟨rfl, hf1⟩
        go_wp2_with fail
        go_ret
        exact ⟨by rw [HA.out]; rfl, HF.out.trans_same hf1⟩
      | true =>
        rw [hq] at HC
        have HA : Hid (∀ (j : Nat) (hj : j < es.length), j < i + 1 → may31 es[j] = true) := Lib.hid (fun j hj hji => by
          rcases Nat.lt_or_eq_of_le (Nat.lt_succ_iff.1 hji) with h | h
          · exact HR.out j hj h
          · subst h; exact hq)
        clear hq
        go_wp2_with fail
        refine HC.out.mono ?_
        rintro e1 w1 ⟨rfl, hf1⟩
        go_wp2_with fail
        go_roundg (gk - 1)
        case measure => have := HG.out; omega
        case rel => exact ⟨i + 1, by go_num, by omega, Lib.hid (HF.out.trans_same hf1), HA, by have := HG.out; omega⟩
    · have hlti : ¬ (i : Int) < (n : Int) := by omega
      have HA : Hid (badNum es = -1) := Lib.hid (by unfold badNum; rw [badAt_none (fun j hj => HR.out j hj (by have := HX.out.2.1; omega))])
      go_wp2_with fail
      go_ret
      exact ⟨by rw [HA.out]; rfl, HF.out⟩
set_option maxHeartbeats 4000000 in
set_option maxRecDepth 100000 in
/-- The document's Text. -/
theorem rtext_any (a : Option Addr) (c n : Nat) (es : List Ev) (w : World) (hn : es.length = n) (hl : EvsAt w a es) (hs : ∀ e ∈ es, isLong e = false ∧ e.nums) (hbig : n ≤ 100) (ht : Tab w) :
    Calls Tryz.prog 26 #[.slice a n c] w fun e w' => e = .returned (.tuple #[.string (strB (text31 es).1), .int .i64 (text31 es).2.1, .int .i64 (text31 es).2.2]) ∧ Fr No w w' := by
  have HX := Lib.hid (And.intro hl (And.intro hn (And.intro hs ht)))
  clear hl hn hs ht
  have hbig2 : ¬ (65536 : Int) < (n : Int) := by omega
  go_enter Tryz.func26, Tryz.ntmps26
  go_wp2_with fail
  go_loopg [5, 6] n (fun g s5 s6 wr => ∃ (i : Nat) (X : ByteArray), s5 = .string X ∧ s6 = .int .i64 i ∧ i ≤ n ∧ X.size ≤ 41001 * i ∧ Hid (X = strB (lines31 (es.take i))) ∧ Hid (Fr No w wr) ∧ Hid (∀ (j : Nat) (hj : j < es.length), j < i → may31 es[j] = true) ∧ g + i = n)
  case atStart => exact ⟨0, _, rfl, rfl, by omega, by decide, Lib.hid rfl, Lib.hid (Fr.refl _ _), Lib.hid (fun _ _ h => absurd h (Nat.not_lt_zero _)), by omega⟩
  case round =>
    obtain ⟨i, X, rfl, rfl, hi, hxz, HXS, HF, HR, hg⟩ := hrel
    have HG := Lib.hid hg
    clear hg
    by_cases hlt : i < n
    · have hlti : (i : Int) < (n : Int) := by omega
      have hwi : IntKind.i64.wrap ((i : Int) + 1) = (i : Int) + 1 := IntWalk.i64_in _ (by omega)
      have l1 : i < es.length := by rw [HX.out.2.1]; exact hlt
      obtain ⟨b, off, k, cn, a1, n1, c1, a2, n2, c2, a3, n3, c3, rfl, hb, ⟨p0, p1, p2, p3, p4⟩, hev, _⟩ := (HX.out.1.no HF.out).get i l1
      have hls := HX.out.2.2.1 _ (List.getElem_mem l1)
      have hsm : es[i].small := by obtain ⟨h1, h2, h3⟩ := short_small hls.1; exact ⟨by omega, by omega, by omega⟩
      have HC := Lib.hid (rmay_any _ es[i] wr hev hsm)
      have HEV := Lib.hid hev
      clear hev
      cases hq : may31 es[i] with
      | false =>
        rw [hq] at HC
        have HA : Hid (text31 es = ([], (i : Int), 410)) := Lib.hid (by unfold text31; rw [badAt_some l1 hq HR.out])
        clear hq
        go_wp2_with (go_at_call 16; refine HC.out.mono ?_; rintro e1 w1 ⟨rfl, hf1⟩)
        go_ret3
        exact ⟨by rw [HA.out]; rfl, HF.out.trans_same hf1⟩
      | true =>
        rw [hq] at HC
        have HA : Hid (∀ (j : Nat) (hj : j < es.length), j < i + 1 → may31 es[j] = true) := Lib.hid (fun j hj hji => by
          rcases Nat.lt_or_eq_of_le (Nat.lt_succ_iff.1 hji) with h | h
          · exact HR.out j hj h
          · subst h; exact hq)
        have HL := Lib.hid (fun wx (hx : Fr No wr wx) => rline_any _ es[i] wx (HEV.out.no hx) hq hls.2 ((HF.out.trans_same hx).tab HX.out.2.2.2))
        obtain ⟨Y, hY⟩ : ∃ Y, Y = (⟨(line31 es[i]).toArray⟩ : ByteArray) := ⟨_, rfl⟩
        rw [← hY] at HL
        have hyz : Y.size ≤ 41000 := by rw [hY, size_mk]; exact line_short hls.1 hls.2
        have z1 : (⟨#[10]⟩ : ByteArray).size = 1 := rfl
        have HY := Lib.hid hY
        have HCELL := Lib.hid (fun wx (hx : Fr No wr wx) => (And.intro ((hx.cell (p := ⟨b, off + i * 5, none⟩) hb (fun h => h)).trans p0) (And.intro ((hx.cell (p := ⟨b, off + i * 5 + 1, none⟩) hb (fun h => h)).trans p1) (And.intro ((hx.cell (p := ⟨b, off + i * 5 + 2, none⟩) hb (fun h => h)).trans p2) (And.intro ((hx.cell (p := ⟨b, off + i * 5 + 3, none⟩) hb (fun h => h)).trans p3) ((hx.cell (p := ⟨b, off + i * 5 + 4, none⟩) hb (fun h => h)).trans p4))))))
        clear hq hls hsm hY
        go_upto_region 9 with (go_at_call 16; refine HC.out.mono ?_; rintro e1 w1 ⟨rfl, hf1⟩)
        obtain ⟨q0, q1, q2, q3, q4⟩ := HCELL.out w1 hf1
        have HF1 := Lib.hid hf1
        clear hf1 p0 p1 p2 p3 p4
        go_wp2_with (go_at_call 18; refine (HL.out _ HF1.out).mono ?_; rintro e2 w2 ⟨rfl, hf2⟩)
        go_roundg (gk - 1)
        case measure => have := HG.out; omega
        case rel =>
          refine ⟨i + 1, _, rfl, by go_num, by omega, by rw [ByteArray.size_append', ByteArray.size_append', z1]; omega, Lib.hid ?_, Lib.hid ((HF.out.trans_same HF1.out).trans_same hf2), HA, by have := HG.out; omega⟩
          rw [HXS.out, HY.out, lines_take es i l1]
          show strB _ ++ strB _ ++ strB [10] = _
          unfold strB
          rw [str_app, str_app]
    · have hlti : ¬ (i : Int) < (n : Int) := by omega
      obtain rfl : i = n := by omega
      have hmay : ∀ (j : Nat) (hj : j < es.length), may31 es[j] = true := fun j hj => HR.out j hj (by have := HX.out.2.1; omega)
      have HA : Hid (text31 es = (lines31 es, (i : Int), 0)) := Lib.hid (by unfold text31; rw [badAt_none hmay, HX.out.2.1])
      have hXS : X = strB (lines31 es) := by rw [HXS.out, List.take_of_length_le (by rw [HX.out.2.1]; omega)]
      have hsz : X.size ≤ 41001 * i := by rw [hXS, strB_size, ← HX.out.2.1]; exact lines_short es HX.out.2.2.1
      have hszi : ¬ (16777216 : Int) < (X.size : Int) := by omega
      have HXX := Lib.hid hXS
      clear hXS hsz hmay
      go_wp2_with fail
      go_ret3
      exact ⟨by rw [HA.out, HXX.out]; rfl, HF.out⟩
end Go.Proofs.YtjidpccgjiogbaaGreatDoor

namespace Go.Proofs.YtjidpccgjiogbaaGreatDoor
open Go Go.RowKit
def BT : TypeId := 99
theorem strB_app (a b : Bytes) : strB a ++ strB b = strB (a ++ b) := by unfold strB; exact str_app a b
theorem strB_list (a : Bytes) : (strB a).data.toList = a := by simp [strB]
set_option maxHeartbeats 4000000 in
set_option maxRecDepth 100000 in
/-- The program's Text. -/
theorem stext_any (a : Option Addr) (c n : Nat) (es : List Ev) (w : World) (hn : es.length = n) (hl : EvsAt w a es) (hs : ∀ e ∈ es, isLong e = false ∧ e.nums) (hbig : n ≤ 100) (ht : Tab w) :
    Calls Tryz.prog 25 #[.slice a n c] w fun e w' => e = .returned (.tuple #[.string (strB (text31 es).1), .int .i64 (text31 es).2.1, .int .i64 (text31 es).2.2]) ∧ Fr No w w' := by
  have HX := Lib.hid (And.intro hl (And.intro hn (And.intro hs ht)))
  have hsm : ∀ e ∈ es, e.small := fun e he => by
    obtain ⟨h1, h2, h3⟩ := short_small (hs e he).1
    exact ⟨by omega, by omega, by omega⟩
  have HI := firstBad_any a c n es w hn hl hsm (by omega)
  have hbig2 : ¬ (65536 : Int) < (n : Int) := by omega
  clear hl hn hs ht hsm
  cases hb : badAt es with
  | some i =>
    rw [show badNum es = (i : Int) by unfold badNum; rw [hb]] at HI
    have HI := Lib.hid HI
    have HA : Hid (text31 es = ([], (i : Int), 410)) := Lib.hid (by unfold text31; rw [hb])
    have hi0 : (0 : Int) ≤ (i : Int) := by omega
    clear hb
    go_enter Tryz.func25, Tryz.ntmps25
    go_wp2_with (go_at_call 50; refine HI.out.mono ?_; rintro e1 w1 ⟨rfl, hf1⟩)
    go_ret3
    exact ⟨by rw [HA.out]; rfl, hf1⟩
  | none =>
    rw [show badNum es = -1 by unfold badNum; rw [hb]] at HI
    have HI := Lib.hid HI
    have HM : Hid (∀ (j : Nat) (hj : j < es.length), may31 es[j] = true) := Lib.hid (badAt_none_iff hb)
    have HA : Hid (text31 es = (lines31 es, (es.length : Int), 0)) := Lib.hid (by unfold text31; rw [hb])
    clear hb
    go_enter Tryz.func25, Tryz.ntmps25
    go_upto_region 6 with (go_at_call 50; refine HI.out.mono ?_; rintro e1 w1 ⟨rfl, hf1⟩)
    obtain ⟨b, hbb⟩ : ∃ b, b = w1.heap.size := ⟨_, rfl⟩
    obtain ⟨W1, hW1⟩ : ∃ W1, W1 = w1.alloc (.cells #[.pointer none, .slice none 0 0] 99) := ⟨_, rfl⟩
    have hB1 : W1.heap[b]? = some (.cells #[.pointer none, .slice none 0 0] 99 (0, 0)) := by rw [hW1, hbb]; exact heap_alloc_new w1 _
    have hwb : w.heap.size ≤ b := by rw [hbb]; exact hf1.size
    have HIB : Hid (IsB 99 w.heap.size b [] W1 ∧ Below w.heap.size w W1) := Lib.hid ⟨.inl ⟨hwb, _, hB1, World.ownsRow_nil _ _ _ _, by simp [Value.ownBlock]⟩, by
      rw [hW1]; exact (hf1.alloc _).toBelow⟩
    have HWB := Lib.hid hwb
    have hWE := Lib.hid hW1
    have hBE := Lib.hid hbb
    clear hB1 hwb hf1 hW1 hbb
    go_upto_region 7 with fail
    rw [← hBE.out, ← hWE.out]
    go_wp2_with fail
    go_loopg [8, 19] n (fun g _ s19 wr => ∃ i : Nat, s19 = .int .i64 i ∧ i ≤ n ∧ Hid (IsB 99 w.heap.size b (lines31 (es.take i)) wr ∧ Below w.heap.size w wr) ∧ g + i = n)
    case atStart => exact ⟨0, rfl, by omega, HIB, by omega⟩
    case round =>
      obtain ⟨i, rfl, hi, HF, hg⟩ := hrel
      have HG := Lib.hid hg
      clear hg
      by_cases hlt : i < n
      · have hlti : (i : Int) < (n : Int) := by omega
        have l1 : i < es.length := by rw [HX.out.2.1]; exact hlt
        have hfr := Fr.ofBelow HF.out.2
        obtain ⟨e, he⟩ : ∃ e, e = es[i] := ⟨_, rfl⟩
        obtain ⟨b9, off, k, cn, a1, n1, c1, a2, n2, c2, a3, n3, c3, rfl, hb9, ⟨p0, p1, p2, p3, p4⟩, hev, _⟩ := (HX.out.1.no hfr).get i l1
        rw [← he] at hev
        obtain ⟨W2, hW2⟩ : ∃ W2, W2 = wr.alloc (.cells #[.int .i64 k, .int .i64 cn, .slice a1 n1 c1, .slice a2 n2 c2, .slice a3 n3 c3] 27) := ⟨_, rfl⟩
        obtain ⟨E, hE⟩ : ∃ E, E = wr.heap.size := ⟨_, rfl⟩
        have hn2 : Fr No wr W2 := by rw [hW2]; exact (Fr.refl _ _).alloc _
        have hE2 : W2.heap[E]? = some (.cells #[.int .i64 k, .int .i64 cn, .slice a1 n1 c1, .slice a2 n2 c2, .slice a3 n3 c3] 27 (0, 0)) := by rw [hW2, hE]; exact heap_alloc_new wr _
        obtain ⟨⟨q0, q1, q2, q3, q4⟩, _⟩ := res_cells hE2
        have hls := HX.out.2.2.1 e (by rw [he]; exact List.getElem_mem l1)
        have hmy : may31 e = true := by rw [he]; exact HM.out i l1
        have HT := Lib.hid (told_any _ e W2 (hev.no hn2) hmy hls.2 ((hfr.trans_same hn2).tab HX.out.2.2.2))
        have hnel : (line31 e).length ≤ 41000 := line_short hls.1 hls.2
        have hpre : (lines31 (es.take i)).length ≤ 41001 * i := by
          have := lines_short (es.take i) (fun x hx => HX.out.2.2.1 x (List.mem_of_mem_take hx))
          rw [List.length_take, HX.out.2.1] at this
          rw [Nat.min_eq_left (by omega)] at this
          exact this
        obtain ⟨L, hL⟩ : ∃ L, L = lines31 (es.take i) := ⟨_, rfl⟩
        obtain ⟨l, hl⟩ : ∃ l, l = line31 e := ⟨_, rfl⟩
        rw [← hl] at HT hnel
        rw [← hL] at hpre
        obtain ⟨Y, hY⟩ : ∃ Y, Y = strB (l ++ [10]) := ⟨_, rfl⟩
        obtain ⟨SL, hSL⟩ : ∃ SL, SL = strB l := ⟨_, rfl⟩
        rw [← hSL] at HT
        have hslz : SL.size ≤ 41000 := by rw [hSL, strB_size]; exact hnel
        have z1 : (⟨#[10]⟩ : ByteArray).size = 1 := rfl
        have HAPP : Hid (SL ++ (⟨#[10]⟩ : ByteArray) = Y) := Lib.hid (by rw [hY, hSL]; exact strB_app l [10])
        have hYs : Y.size = l.length + 1 := by rw [hY, strB_size]; simp
        have HW := Lib.hid (fun wx (hx : Fr No W2 wx) => writeString_any w.heap.size b L Y wx bu_builder (((by rw [hL]; exact HF.out.1 : IsB 99 w.heap.size b L wr).no hn2).no hx) (by omega) (Nat.le_trans HF.out.2.size (Nat.le_trans hn2.size hx.size)))
        have HLEN := Lib.hid (fun wx (hx : IsB 99 w.heap.size b (L ++ Y.data.toList) wx) => Tryz.Builder_Len w.heap.size b _ wx hx)
        have hz : ((Lib.byteCells (L ++ Y.data.toList)).length : Int) ≤ 16777216 := by
          rw [Lib.byteCells_length, List.length_append, hY, strB_list, List.length_append]
          simp only [List.length_cons, List.length_nil]
          omega
        obtain ⟨z, hzz⟩ : ∃ z : Nat, z = (Lib.byteCells (L ++ Y.data.toList)).length := ⟨_, rfl⟩
        rw [← hzz] at hz HLEN
        have hz2 : ¬ (16777216 : Int) < (z : Int) := by omega
        have HN2 := Lib.hid (And.intro hfr hn2)
        have HEQ : Hid (L ++ Y.data.toList = lines31 (es.take (i + 1))) := Lib.hid (by rw [hY, strB_list, lines_take es i l1, hL, hl, he, List.append_assoc])
        have HWE2 := Lib.hid (And.intro hE hW2)
        clear hz hzz hYs hY hSL hl hL hpre hnel hls hmy hE2 hn2 hE hW2 hev he hfr
        go_upto_region 10 with fail
        rw [← HWE2.out.1, ← HWE2.out.2]
        go_wp2_with (first
          | (go_at_call 31; refine HT.out.mono ?_; rintro e2 w2 ⟨rfl, hf2⟩)
          | (go_at_call 52; rw [HAPP.out]; refine (HW.out _ hf2).mono ?_; rintro e3 w3 ⟨rfl, hb3, hbl3, _⟩)
          | (go_at_call 53; refine (HLEN.out _ hb3).mono ?_; rintro e4 w4 ⟨rfl, rfl⟩))
        go_roundg (gk - 1)
        case measure => have := HG.out; omega
        case rel =>
          refine ⟨i + 1, by go_num, by omega, Lib.hid ⟨by rw [← HEQ.out]; exact hb3, ?_⟩, by have := HG.out; omega⟩
          exact (HF.out.2.trans ((HN2.out.2.trans_same hf2).toBelow.mono HF.out.2.size)).trans hbl3
      · have hlti : ¬ (i : Int) < (n : Int) := by omega
        obtain rfl : i = n := by omega
        have HST := Lib.hid (Tryz.Builder_String_any w.heap.size b (lines31 (es.take i)) wr HF.out.1 HF.out.2.size)
        have HLL : Hid (lines31 (es.take i) = lines31 es) := Lib.hid (by rw [List.take_of_length_le (by rw [HX.out.2.1]; omega)])
        go_wp2_with (go_at_call 54; refine HST.out.mono ?_; rintro e5 w5 ⟨rfl, hb5⟩)
        go_ret3
        exact ⟨by rw [HA.out, HLL.out, HX.out.2.1]; rfl, Fr.ofBelow (HF.out.2.trans hb5)⟩
end Go.Proofs.YtjidpccgjiogbaaGreatDoor
