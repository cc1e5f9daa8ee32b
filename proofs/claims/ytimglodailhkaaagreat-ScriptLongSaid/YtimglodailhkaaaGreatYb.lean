/-
  Scripts in plain terms; IndexFunc at events; the document's Text walked.
-/
import Derived.Test.YtimglodailhkaaaGreatLw
import Derived.Deep.LoopGhost
namespace Go.Proofs.YtimglodailhkaaaGreat
open Go Go.RowKit
/-- The first event that may not be. -/
def badAt (es : List Ev) : Option Nat := es.findIdx? (fun e => !may31 e)
def lines31 (es : List Ev) : Bytes := es.flatMap (fun e => line31 e ++ [10])
theorem badAt_some {es : List Ev} {i : Nat} (hi : i < es.length) (h : may31 es[i] = false) (hlt : ∀ (j : Nat) (hj : j < es.length), j < i → may31 es[j] = true) : badAt es = some i := by
  unfold badAt
  rw [List.findIdx?_eq_some_iff_getElem]
  exact ⟨hi, by simp [h], fun j hj => by simp [hlt j (by omega) hj]⟩
theorem badAt_none {es : List Ev} (h : ∀ (j : Nat) (hj : j < es.length), may31 es[j] = true) : badAt es = none := by
  unfold badAt
  rw [List.findIdx?_eq_none_iff]
  intro x hx
  obtain ⟨j, hj, rfl⟩ := List.mem_iff_getElem.1 hx
  simp [h j hj]
theorem lines_take (es : List Ev) (i : Nat) (h : i < es.length) : lines31 (es.take (i + 1)) = lines31 (es.take i) ++ line31 es[i] ++ [10] := by
  unfold lines31
  rw [take_flat _ es i h, List.append_assoc]
theorem hex31_len (l : Bytes) : (hex31 l).length ≤ 2 * l.length + 1 := by
  unfold hex31
  split
  · simp
  · rw [hex_len]; omega
/-- The same, as IndexFunc tells it. -/
def badNum (es : List Ev) : Int := match badAt es with
  | some i => i
  | none => -1
/-- An event of a slice: its cells, its value. -/
theorem EvsAt.get {w : World} {a : Option Addr} {es : List Ev} (h : EvsAt w a es) (i : Nat) (hi : i < es.length) :
    ∃ b off k cn a1 n1 c1 a2 n2 c2 a3 n3 c3, a = some ⟨b, off, none⟩ ∧ b < w.heap.size ∧
      (w.cell? ⟨b, off + i * 5, none⟩ = some (.int .i64 k) ∧ w.cell? ⟨b, off + i * 5 + 1, none⟩ = some (.int .i64 cn) ∧ w.cell? ⟨b, off + i * 5 + 2, none⟩ = some (.slice a1 n1 c1) ∧ w.cell? ⟨b, off + i * 5 + 3, none⟩ = some (.slice a2 n2 c2) ∧ w.cell? ⟨b, off + i * 5 + 4, none⟩ = some (.slice a3 n3 c3)) ∧
      EvAt w (.agg #[.int .i64 k, .int .i64 cn, .slice a1 n1 c1, .slice a2 n2 c2, .slice a3 n3 c3]) es[i] ∧ es[i].kind = k ∧ es[i].conn = cn ∧ es[i].bytes.length = n1 := by
  rcases h with h | ⟨b, off, e, hb, hc⟩
  · rw [h] at hi; exact absurd hi (Nat.not_lt_zero _)
  · obtain ⟨a1, c1, a2, c2, a3, c3, hp, x1, x2, x3⟩ := hc i hi
    exact ⟨b, off, _, _, a1, _, c1, a2, _, c2, a3, _, c3, e, hb, hp, ⟨a1, c1, a2, c2, a3, c3, rfl, x1, x2, x3⟩, rfl, rfl, rfl⟩
theorem EvsAt.fr {X : Nat → Prop} {w w' : World} {a : Option Addr} {es : List Ev} (h : EvsAt w a es) (hf : Fr X w w') (hX : ∀ k, k < w.heap.size → ¬ X k) : EvsAt w' a es := by
  rcases h with h | ⟨b, off, e, hb, hc⟩
  · exact .inl h
  · refine .inr ⟨b, off, e, Nat.lt_of_lt_of_le hb hf.size, fun i hi => ?_⟩
    obtain ⟨a1, c1, a2, c2, a3, c3, ⟨p0, p1, p2, p3, p4⟩, x1, x2, x3⟩ := hc i hi
    have hf' : Fr No w w' := ⟨hf.os, hf.tape, hf.output, hf.size, fun k hk _ => hf.block k hk (hX k hk)⟩
    exact ⟨a1, c1, a2, c2, a3, c3, ⟨(hf.cell hb (hX b hb)).trans p0, (hf.cell hb (hX b hb)).trans p1, (hf.cell hb (hX b hb)).trans p2, (hf.cell hb (hX b hb)).trans p3, (hf.cell hb (hX b hb)).trans p4⟩, x1.no hf', x2.no hf', x3.no hf'⟩
theorem EvsAt.no {w w' : World} {a : Option Addr} {es : List Ev} (h : EvsAt w a es) (hf : Fr No w w') : EvsAt w' a es := h.fr hf (fun _ _ h => h)
/-- Text's predicate. -/
theorem text1_any (v : Value) (e : Ev) (w : World) (hv : EvAt w v e) (he : e.small) :
    Calls Tryz.prog 13 #[v] w fun en w' => en = .returned (.bool (!may31 e)) ∧ Fr No w w' := by
  obtain ⟨k, cn, a1, n1, c1, a2, n2, c2, a3, n3, c3, rfl, _⟩ := hv.named
  obtain ⟨W1, hW1⟩ : ∃ W1, W1 = w.alloc (.cells #[.int .i64 k, .int .i64 cn, .slice a1 n1 c1, .slice a2 n2 c2, .slice a3 n3 c3] 28) := ⟨_, rfl⟩
  have hf1 : Fr No w W1 := by rw [hW1]; exact (Fr.refl _ _).alloc _
  have hC := check_any _ e W1 (hv.no hf1) he
  obtain ⟨⟨p0, p1, p2, p3, p4⟩, _⟩ := res_cells (W := W1) (by rw [hW1]; exact heap_alloc_new w _)
  have HF := Lib.hid hf1
  have HW := Lib.hid hW1
  clear hW1 hf1 hv
  cases hm : may31 e with
  | true =>
    rw [hm, if_pos rfl] at hC
    have HC := Lib.hid hC
    clear hC
    go_enter Tryz.func13, Tryz.ntmps13
    go_upto_region 1 with fail
    rw [← HW.out]
    go_wp2_with (go_at_call 10; refine HC.out.mono ?_; rintro e1 w1 ⟨rfl, hf⟩)
    go_ret
    exact ⟨rfl, HF.out.trans_same hf⟩
  | false =>
    rw [hm, if_neg (by decide)] at hC
    have HC := Lib.hid hC
    clear hC
    go_enter Tryz.func13, Tryz.ntmps13
    go_upto_region 1 with fail
    rw [← HW.out]
    go_wp2_with (go_at_call 10; refine HC.out.mono ?_; rintro e1 w1 ⟨rfl, hf⟩)
    go_ret
    exact ⟨rfl, HF.out.trans_same hf⟩
set_option maxHeartbeats 4000000 in
set_option maxRecDepth 100000 in
theorem firstBad_any (a : Option Addr) (c n : Nat) (es : List Ev) (w : World) (hn : es.length = n) (hl : EvsAt w a es) (hs : ∀ e ∈ es, e.small) (hbig : n ≤ 1000000000) :
    Calls Tryz.prog 12 #[.slice a n c, .func (.func 13) #[] #[]] w fun e w' => e = .returned (.int .i64 (badNum es)) ∧ Fr No w w' := by
  have HX := Lib.hid (And.intro hl (And.intro hn hs))
  clear hl hn hs
  go_enter Tryz.func12, Tryz.ntmps12
  go_wp2_with fail
  go_loopg [5, 8] n (fun g _ s8 wr => ∃ i : Nat, s8 = .int .i64 i ∧ i ≤ n ∧ Hid (Fr No w wr) ∧ Hid (∀ (j : Nat) (hj : j < es.length), j < i → may31 es[j] = true) ∧ g + i = n)
  case atStart => exact ⟨0, rfl, by omega, Lib.hid (Fr.refl _ _), Lib.hid (fun _ _ h => absurd h (Nat.not_lt_zero _)), by omega⟩
  case round =>
    obtain ⟨i, rfl, hi, HF, HR, hg⟩ := hrel
    have HG := Lib.hid hg
    clear hg
    by_cases hlt : i < n
    · have hlti : (i : Int) < (n : Int) := by omega
      have l1 : i < es.length := by rw [HX.out.2.1]; exact hlt
      obtain ⟨b, off, k, cn, a1, n1, c1, a2, n2, c2, a3, n3, c3, rfl, hb, ⟨p0, p1, p2, p3, p4⟩, hev, _⟩ := (HX.out.1.no HF.out).get i l1
      have HC := Lib.hid (text1_any _ es[i] wr hev (HX.out.2.2 _ (List.getElem_mem l1)))
      clear hev
      cases hq : may31 es[i] with
      | false =>
        rw [hq] at HC
        have HA : Hid (badNum es = i) := Lib.hid (by unfold badNum; rw [badAt_some l1 hq HR.out])
        clear hq
        go_wp2_with fail
        refine HC.out.mono ?_
        rintro e1 w1 ⟨rfl, hf1⟩
        go_wp2_with fail
        go_ret
        exact ⟨by rw [HA.out]; rfl, HF.out.trans_same hf1⟩
      | true =>
        rw [hq] at HC
        have HA : Hid (∀ (j : Nat) (hj : j < es.length), j < i + 1 → may31 es[j] = true) := Lib.hid (fun j hj hji => by
          rcases Nat.lt_or_eq_of_le (Nat.lt_succ_iff.1 hji) with h | h
          · exact HR.out j hj h
          · subst h; exact hq)
        clear hq
        go_wp2_with fail
        refine HC.out.mono ?_
        rintro e1 w1 ⟨rfl, hf1⟩
        go_wp2_with fail
        go_roundg (gk - 1)
        case measure => have := HG.out; omega
        case rel => exact ⟨i + 1, by go_num, by omega, Lib.hid (HF.out.trans_same hf1), HA, by have := HG.out; omega⟩
    · have hlti : ¬ (i : Int) < (n : Int) := by omega
      have HA : Hid (badNum es = -1) := Lib.hid (by unfold badNum; rw [badAt_none (fun j hj => HR.out j hj (by have := HX.out.2.1; omega))])
      go_wp2_with fail
      go_ret
      exact ⟨by rw [HA.out]; rfl, HF.out⟩
end Go.Proofs.YtimglodailhkaaaGreat
namespace Go.Proofs.YtimglodailhkaaaGreat
open Go Go.RowKit
theorem strB_app (a b : Bytes) : strB a ++ strB b = strB (a ++ b) := by unfold strB; exact str_app a b
theorem strB_list (a : Bytes) : (strB a).data.toList = a := by simp [strB]
end Go.Proofs.YtimglodailhkaaaGreat
