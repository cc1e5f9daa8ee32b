/-
  works: two lines, there and back.
-/
import Derived.Test.YtimglodailhkaaaGreatSd
import Derived.Test.YtimglodailhkaaaGreatLi
import Derived.Test.YtimglodailhkaaaGreatNm
namespace Go.Proofs.YtimglodailhkaaaGreat
open Go Go.RowKit
theorem itoa_digit (n : Nat) (h : n < 10) : Lib.itoa n = [UInt8.ofNat (48 + n)] := by
  unfold Lib.itoa
  rw [if_neg (by omega), Lib.decDigits, Int.toNat_natCast, dif_pos h]
def sendL : Bytes := [115, 101, 110, 100, 32, 51, 32, 48, 48, 102, 102]
def feedL : Bytes := [102, 101, 101, 100, 32, 103, 111, 111, 100, 32, 102, 97, 105, 108, 32, 50]
def closeL : Bytes := [99, 108, 111, 115, 101, 32, 48, 55]
def sendE : Ev := ⟨2, 3, [0, 255], [], []⟩
def feedE : Ev := ⟨4, 0, [], [(0, 0), (1, 2)], []⟩
theorem send_line : line31 sendE = sendL := by
  unfold line31 sendE
  rw [if_neg (by decide), if_pos rfl]
  have h3 := itoa_digit 3 (by decide)
  rw [show ((3 : Nat) : Int) = 3 from rfl] at h3
  dsimp only
  rw [h3]
  decide +kernel
theorem feed_read : read31 feedL = some feedE := by
  have h1 : cand31 (words31 feedL) = feedE := by decide +kernel
  have h2 : line31 feedE = feedL := by
    unfold line31 feedE
    rw [if_neg (by decide), if_neg (by decide), if_neg (by decide), if_pos rfl]
    have h := itoa_digit 2 (by decide)
    rw [show ((2 : Nat) : Int) = 2 from rfl] at h
    simp only [List.flatMap_cons, List.flatMap_nil, fate31, h]
    decide +kernel
  unfold read31
  rw [h1, if_pos ⟨by decide +kernel, h2⟩]
theorem close_read : read31 closeL = none := by
  have h1 : cand31 (words31 closeL) = ⟨3, 7, [], [], []⟩ := by decide +kernel
  have h2 : ¬ line31 ⟨3, 7, [], [], []⟩ = closeL := by
    unfold line31
    rw [if_neg (by decide), if_neg (by decide), if_pos rfl]
    have h := itoa_digit 7 (by decide)
    rw [show ((7 : Nat) : Int) = 7 from rfl] at h
    dsimp only
    rw [h]
    decide +kernel
  unfold read31
  rw [h1, if_neg (fun h => h2 h.2)]
theorem two_num : numWord [50] = some 2 := by
  unfold numWord
  have h1 : Lib.parseIntB 64 [50] = .ok 2 := by decide +kernel
  have h2 := itoa_digit 2 (by decide)
  rw [show ((2 : Nat) : Int) = 2 from rfl] at h2
  rw [h1]
  dsimp only
  rw [h2]
  rfl
def isOk : Lib.NumEnd Int → Bool
  | .ok _ => true
  | _ => false
theorem feed_asks (T B : Prop) : ReadAsks T B feedL := by
  intro h t hw x hx
  have hw0 : words31 feedL = [[102, 101, 101, 100], goodW, failW, [50]] := by decide +kernel
  rw [hw0] at hw
  cases hw
  have hk : kindOf [102, 101, 101, 100] = 4 := by decide +kernel
  have hs : sfates [goodW, failW, [50]] = some [(0, 0), (1, 2)] := by
    rw [sfates_good, sfates_fail, two_num]; rfl
  have hl : lread (kindOf [102, 101, 101, 100]) [goodW, failW, [50]] ≠ none := by
    rw [hk]
    show (sfates _).map _ ≠ none
    rw [hs]; intro h; cases h
  refine ⟨fun v hv hb => ?_, fun _ h => absurd h hl⟩
  have hx2 : x = goodW ∨ x = failW ∨ x = [50] := by simpa using hx
  rcases hx2 with rfl | rfl | rfl
  · have h0 : isOk (Lib.parseIntB 64 goodW) = false := by decide +kernel
    rw [hv] at h0; cases h0
  · have h0 : isOk (Lib.parseIntB 64 failW) = false := by decide +kernel
    rw [hv] at h0; cases h0
  · have : Lib.parseIntB 64 [50] = .ok 2 := by decide +kernel
    rw [this] at hv; cases hv
    exact absurd ⟨by decide, by decide⟩ hb
theorem close_asks (T B : Prop) : ReadAsks T B closeL := by
  intro h t hw x hx
  have hw0 : words31 closeL = [[99, 108, 111, 115, 101], [48, 55]] := by decide +kernel
  rw [hw0] at hw
  cases hw
  have hx2 : x = [48, 55] := by simpa using hx
  subst hx2
  have : Lib.parseIntB 64 [48, 55] = .ok 7 := by decide +kernel
  refine ⟨fun v hv hb => ?_, fun hb => absurd this (hb 7)⟩
  rw [this] at hv; cases hv
  exact absurd ⟨by decide, by decide⟩ hb
theorem all_any (s : ByteArray) (w : World) : Calls Tryz.prog 19 #[.string s] w fun e w' => e = .returned (.func (.func 34) #[] #[.pointer (some ⟨w.heap.size, 0, none⟩)]) ∧ w.alloc (.cells #[.string s] 9) = w' := by
  have hmf : ∀ (fn : Fn) (first cap : Array Value) (w : World), (Instr.makeFunc fn first cap).run Tryz.prog w = .ok (.func fn first cap) w := fun _ _ _ _ => rfl
  go_enter Tryz.func19, Tryz.ntmps19
  go_wp2_with fail
  go_ret
  exact ⟨rfl, rfl⟩
theorem all_some (b : Nat) (w : World) : (binOp .neq 58 (.func (.func 34) #[] #[.pointer (some ⟨b, 0, none⟩)]) .nilFunc).run Tryz.prog w = .ok (.bool true) w := by kernel_rfl
set_option maxRecDepth 100000 in
set_option maxHeartbeats 8000000 in
theorem works_any {TT BB : Prop} (w : World) (hv : Vars TT BB w) (m : Int) (hm : w.cell? ⟨0, 0, none⟩ = some (.int .i64 m)) :
    Calls Tryz.prog 11 #[] w fun e w' => e = .returned (.bool true) ∧ Fr No w w' := by
  have h0 : 0 < w.heap.size := by
    unfold World.cell? at hm
    rcases Nat.eq_zero_or_pos w.heap.size with h | h
    · rw [Array.getElem?_eq_none (by omega)] at hm; cases hm
    · exact h
  have HV := Lib.hid (fun (wx : World) (hx : Fr No w wx) => (And.intro (hv.below hx.toBelow) ((hx.cell (p := ⟨0, 0, none⟩) h0 (fun h => h)).trans hm) : Vars TT BB wx ∧ wx.cell? ⟨0, 0, none⟩ = some (.int .i64 m)))
  obtain ⟨W1, hW1⟩ : ∃ W1, W1 = w.alloc (.cells #[.int .u8 0, .int .u8 255] 5) := ⟨_, rfl⟩
  have hf1 : Fr No w W1 := by rw [hW1]; exact (Fr.refl _ _).alloc _
  have hb1 : W1.heap[w.heap.size]? = some (.cells #[.int .u8 0, .int .u8 255] 5 (0, 0)) := by rw [hW1]; exact heap_alloc_new w _
  have hev : EvAt W1 (.agg #[.int .i64 2, .int .i64 3, .slice (some ⟨w.heap.size, 0, none⟩) 2 2, .slice none 0 0, .slice none 0 0]) sendE := by
    refine ⟨some ⟨w.heap.size, 0, none⟩, 2, none, 0, none, 0, rfl, .inr ⟨w.heap.size, 0, rfl, lt_of_block hb1, fun j v hj => ?_⟩, .inl rfl, .inl rfl⟩
    rw [Nat.zero_add, cell_of_row W1 w.heap.size j _ _ _ hb1]
    have hj2 : ([.int .u8 0, .int .u8 255] : List Value)[j]? = some v := hj
    simpa using hj2
  obtain ⟨S1, hS1⟩ : ∃ S1, S1 = strB sendL := ⟨_, rfl⟩
  have hL := sline_any _ sendE W1 hev ⟨by decide, by decide, by decide⟩ ⟨⟨by decide, by decide⟩, fun f h => (by cases h), fun f h => (by cases h)⟩ ⟨fun h => absurd ⟨by decide, by decide⟩ h, fun f h => (by cases h), fun f h => (by cases h)⟩
  rw [if_pos (by decide +kernel), if_pos (by decide +kernel), send_line, ← hS1] at hL
  have HL := Lib.hid hL
  have HR1 : Hid (∀ wx, Fr No w wx → Calls Tryz.prog 7 #[.string ⟨#[102, 101, 101, 100, 32, 103, 111, 111, 100, 32, 102, 97, 105, 108, 32, 50]⟩] wx fun e w' => ∃ a1 c1 b off c2 a3 c3, e = .returned (.tuple #[.agg #[.int .i64 4, .int .i64 0, .slice a1 0 c1, .slice (some ⟨b, off, none⟩) 2 c2, .slice a3 0 c3], .int .i64 0]) ∧
      w'.cell? ⟨b, off + 2, none⟩ = some (.int .i64 1) ∧ w'.cell? ⟨b, off + 3, none⟩ = some (.int .i64 2) ∧ b < w'.heap.size ∧ Fr No wx w') := Lib.hid (fun wx hx => by
    refine (sread_any wx (HV.out wx hx).1 m (HV.out wx hx).2 ⟨#[102, 101, 101, 100, 32, 103, 111, 111, 100, 32, 102, 97, 105, 108, 32, 50]⟩ (by decide) (feed_asks TT BB)).mono ?_
    rintro e w' ⟨v, h1, h2, h3⟩
    have hr : read31 (⟨#[102, 101, 101, 100, 32, 103, 111, 111, 100, 32, 102, 97, 105, 108, 32, 50]⟩ : ByteArray).data.toList = some feedE := feed_read
    rw [hr] at h1 h2
    obtain ⟨a1, c1, a2, c2, a3, c3, rfl, x1, x2, x3⟩ := h2.form
    rcases x2 with x2 | ⟨b, off, rfl, hb, hc⟩
    · exact absurd x2 (by decide)
    · exact ⟨a1, c1, b, off, c2, a3, c3, h1, hc 2 _ rfl, hc 3 _ rfl, hb, h3⟩)
  have HR2 : Hid (∀ wx, Fr No w wx → Calls Tryz.prog 7 #[.string ⟨#[99, 108, 111, 115, 101, 32, 48, 55]⟩] wx fun e w' => ∃ a1 c1 a2 c2 a3 c3, e = .returned (.tuple #[.agg #[.int .i64 0, .int .i64 0, .slice a1 0 c1, .slice a2 0 c2, .slice a3 0 c3], .int .i64 411]) ∧ Fr No wx w') := Lib.hid (fun wx hx => by
    refine (sread_any wx (HV.out wx hx).1 m (HV.out wx hx).2 ⟨#[99, 108, 111, 115, 101, 32, 48, 55]⟩ (by decide) (close_asks TT BB)).mono ?_
    rintro e w' ⟨v, h1, h2, h3⟩
    have hr : read31 (⟨#[99, 108, 111, 115, 101, 32, 48, 55]⟩ : ByteArray).data.toList = none := close_read
    rw [hr] at h1 h2
    obtain ⟨a1, c1, a2, c2, a3, c3, rfl, x1, x2, x3⟩ := h2.form
    exact ⟨a1, c1, a2, c2, a3, c3, h1, h3⟩)
  obtain ⟨q1, q1'⟩ := str_eq S1 sendL [115, 101, 110, 100, 32, 51, 32, 48, 48, 102, 102] hS1
  have t1 := q1.trans (decide_eq_true rfl)
  have t1' := q1'.trans (decide_eq_true rfl)
  have HNM := Lib.hid num_any
  have has := all_some
  have HAL := Lib.hid all_any
  clear q1 q1' hS1
  have HF1 := Lib.hid hf1
  have HW1 := Lib.hid hW1
  clear hL hev hb1 hf1 hW1 hv hm h0
  go_enter Tryz.func11, Tryz.ntmps11
  go_upto_region 2 with (go_at_call 6; rw [← HW1.out]; refine HL.out.mono ?_; rintro e w2 ⟨rfl, hf2⟩)
  have HF2 := Lib.hid (HF1.out.trans_same hf2)
  clear hf2
  go_upto_region 3 with (go_at_call 7; refine (HR1.out _ HF2.out).mono ?_; rintro e w3 ⟨a1, c1, b, off, c2, a3, c3, rfl, x1, x2, hb, hf3⟩)
  obtain ⟨W3, hW3⟩ : ∃ W3, W3 = w3.alloc (.cells #[.int .i64 4, .int .i64 0, .slice a1 0 c1, .slice (some ⟨b, off, none⟩) 2 c2, .slice a3 0 c3] 28) := ⟨_, rfl⟩
  obtain ⟨G, hG⟩ : ∃ G, G = w3.heap.size := ⟨_, rfl⟩
  rw [← hW3, ← hG]
  have hn3 : Fr No w3 W3 := by rw [hW3]; exact (Fr.refl _ _).alloc _
  have hE3 : W3.heap[G]? = some (.cells #[.int .i64 4, .int .i64 0, .slice a1 0 c1, .slice (some ⟨b, off, none⟩) 2 c2, .slice a3 0 c3] 28 (0, 0)) := by rw [hW3, hG]; exact heap_alloc_new w3 _
  have hb3 : b < W3.heap.size := Nat.lt_of_lt_of_le hb hn3.size
  have hx1 := (hn3.cell (p := ⟨b, off + 2, none⟩) hb (fun h => h)).trans x1
  have hx2 := (hn3.cell (p := ⟨b, off + 3, none⟩) hb (fun h => h)).trans x2
  have HF3 := Lib.hid ((HF2.out.trans_same hf3).trans_same hn3)
  have HE3 := Lib.hid (And.intro hE3 (And.intro hb3 (And.intro hx1 hx2)))
  clear hW3 hG hn3 hE3 hx1 hx2 x1 x2 hb hb3 hf3
  go_upto_region 4 with (go_at_call 7; refine (HR2.out _ HF3.out).mono ?_; rintro e w4 ⟨b1, d1, b2, d2, b3, d3, rfl, hf4⟩)
  obtain ⟨W4, hW4⟩ : ∃ W4, W4 = w4.alloc (.cells #[.int .i64 0, .int .i64 0, .slice b1 0 d1, .slice b2 0 d2, .slice b3 0 d3] 28) := ⟨_, rfl⟩
  rw [← hW4]
  have hn4 : Fr No W3 W4 := by rw [hW4]; exact hf4.alloc _
  obtain ⟨⟨p0, p1, p2, p3, p4⟩, _⟩ := res_cells (hn4.at HE3.out.1 (fun h => h))
  have hx1 := (hn4.cell (p := ⟨b, off + 2, none⟩) HE3.out.2.1 (fun h => h)).trans HE3.out.2.2.1
  have hx2 := (hn4.cell (p := ⟨b, off + 3, none⟩) HE3.out.2.1 (fun h => h)).trans HE3.out.2.2.2
  have HF4 := Lib.hid (HF3.out.trans_same hn4)
  clear hW4 hn4 hf4
  go_wp2_with (first | (go_at_call 9; refine (HNM.out _ _).mono ?_; rintro e w5 ⟨rfl, rfl⟩) | (go_at_call 19; refine (HAL.out _ _).mono ?_; rintro e w5 ⟨rfl, rfl⟩))
  go_ret
  exact ⟨rfl, HF4.out.alloc _⟩
end Go.Proofs.YtimglodailhkaaaGreat
