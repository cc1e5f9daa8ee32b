/-
  LexBack walked: it is true.
-/
import Derived.Test.YtinodapgldbljaaDoorBk
import Derived.Deep.LoopGhost
import Derived.Deep.DeepCutAuto
import Derived.Deep.DeepMust
namespace Go.Proofs.YtinodapgldbljaaDoor
open Go Go.RowKit
set_option maxRecDepth 100000 in
set_option maxHeartbeats 8000000 in
/-- LexBack is true. -/
theorem lexBack_any (a : Option Addr) (cp n : Nat) (l : List PT) (t : ByteArray) (w : World) (hV : Vars w) (h8 : 8 ≤ w.heap.size) (htab : Lib.TabIs Tryd.prog w "internal/strconv.uint64pow10" .u64 Lib.pow10Tab)
    (hl : Toks w a l) (hn : l.length = n) (hnum : ∀ t ∈ l, t.num < 18446744073709551616) (hnb : n ≤ 9223372036854775807) :
    Calls Tryd.prog 4 #[.slice a n cp, .string t] w fun e w' => e = .returned (.bool true) ∧ Fr No w w' := by
  have WK := Lib.hid (fun wx hf => works_at w wx hV h8 htab hf)
  have HV := Lib.hid (And.intro hV (And.intro htab (And.intro hl (And.intro hn hnum))))
  clear hV htab hl hn hnum
  by_cases hbig : 300 < n ∨ 5000 < t.size
  · have hb2 : (300 : Int) < (n : Int) ∨ (¬ (300 : Int) < (n : Int) ∧ (5000 : Int) < (t.size : Int)) := by omega
    clear hbig
    rcases hb2 with hb2 | ⟨hb1, hb2⟩
    all_goals
      go_enter Tryd.func4, Tryd.ntmps4
      go_wp2_with (go_at_call 10; refine (WK.out _ (Fr.refl _ _)).mono ?_; rintro e w' ⟨rfl, hf⟩)
      go_ret
      exact ⟨rfl, hf⟩
  · have hb1 : ¬ (300 : Int) < (n : Int) := by omega
    have hb2 : ¬ (5000 : Int) < (t.size : Int) := by omega
    have hb3 : n ≤ 300 := by omega
    have hb4 : t.size ≤ 5000 := by omega
    clear hbig
    go_enter Tryd.func4, Tryd.ntmps4
    go_wp2_with fail
    go_loopg [5] n (fun g v wr => ∃ i : Nat, v = .int .i64 i ∧ w = wr ∧ i ≤ n ∧ Hid (∀ j (hj : j < l.length), j < i → l[j].text.length ≤ 5000) ∧ g + i = n)
    case atStart => exact ⟨0, rfl, rfl, by omega, Lib.hid (fun j hj h => absurd h (Nat.not_lt_zero _)), by omega⟩
    case round =>
      obtain ⟨i, rfl, rfl, hi, HT, hg⟩ := hrel
      by_cases hlt : i < n
      · have hlt2 : (i : Int) < (n : Int) := by omega
        have h1 : i < l.length := by rw [HV.out.2.2.2.1]; exact hlt
        obtain ⟨b1, o1, ha, hb1', c0, c1, c2, c3⟩ := HV.out.2.2.1.cells4 i h1
        subst ha
        obtain ⟨x, hx⟩ : ∃ x, x = l[i].text.length := ⟨_, rfl⟩
        obtain ⟨X, hX⟩ : ∃ X : ByteArray, X = ⟨l[i].text.toArray⟩ := ⟨_, rfl⟩
        rw [← hX] at c2
        have hXs : X.size = x := by rw [hX, hx]; rfl
        by_cases hc : 5000 < x
        · have hc2 : (5000 : Int) < (X.size : Int) := by omega
          clear c0 c1 c3 hX hx hXs
          go_wp2_with (go_at_call 10; refine (WK.out _ (Fr.refl _ _)).mono ?_; rintro e w' ⟨rfl, hf⟩)
          go_ret
          exact ⟨rfl, hf⟩
        · have hc2 : ¬ (5000 : Int) < (X.size : Int) := by omega
          have HT2 : Hid (∀ j (hj : j < l.length), j < i + 1 → l[j].text.length ≤ 5000) := Lib.hid (fun j hj h => by
            by_cases e : j = i
            · subst e; omega
            · exact HT.out j hj (by omega))
          clear c0 c1 c3 hX hx hXs hc HT
          go_wp2_with fail
          go_roundg (gk - 1)
          case measure => omega
          case rel => exact ⟨i + 1, by go_num, rfl, by omega, HT2, by omega⟩
      · have hlt2 : ¬ (i : Int) < (n : Int) := by omega
        have HX : Hid (∀ t ∈ l, t.text.length ≤ 5000) := Lib.hid (fun t ht => by
          obtain ⟨j, hj, rfl⟩ := List.mem_iff_getElem.1 ht
          exact HT.out j hj (by have := HV.out.2.2.2.1; omega))
        have HLEN : Hid ((tellR true l).length ≤ 1000000000) := Lib.hid (by
          have h1 := tellR_len l 5000 HV.out.2.2.2.2 HX.out true
          have h2 := HV.out.2.2.2.1
          have h3 : l.length * (4 * 5000 + 21) ≤ 300 * (4 * 5000 + 21) := Nat.mul_le_mul_right _ (by omega)
          omega)
        obtain ⟨s, e, hp⟩ : ∃ s e, print14 l = (s, e) := ⟨_, _, rfl⟩
        obtain ⟨k, p, f, hk⟩ : ∃ k p f, lex14 t.data.toList = (k, p, f) := ⟨_, _, _, rfl⟩
        obtain ⟨kn, hkn⟩ : ∃ kn, k.length = kn := ⟨_, rfl⟩
        have PL := Lib.hid (fun wx (hf : Fr No w wx) => print_at a cp n l w wx HV.out.2.1 hf (HV.out.2.2.1.fr hf) HV.out.2.2.2.1 (by omega) HV.out.2.2.2.2 HLEN.out s e hp)
        have LT := Lib.hid (fun wx (hf : Fr No w wx) => lex_at t w wx HV.out.1 h8 (by omega) hf k p f kn hk hkn)
        have HP := Lib.hid hp
        have HK := Lib.hid hk
        have HKN := Lib.hid hkn
        clear hp hk hkn HT
        by_cases he0 : e = 0
        · have he0b : ((e : Int) == 0) = true := by rw [he0]; rfl
          obtain ⟨k1, r1, r2⟩ := back_one l HV.out.2.2.2.2 s (by rw [HP.out, he0])
          obtain ⟨m1, hm1⟩ : ∃ m1, k1.length = m1 := ⟨_, rfl⟩
          have hsl : s.length ≤ 1048576 := by have h := print14_ok (s := s) (l := l) (by rw [HP.out, he0]); rw [h.2.2]; exact h.2.1
          have LS := Lib.hid (fun wx (hf : Fr No w wx) => lex_at ⟨s.toArray⟩ w wx HV.out.1 h8 (by show s.toArray.size ≤ _; rw [List.size_toArray]; omega) hf k1 0 0 m1 r1 hm1)
          have HR := Lib.hid (And.intro r1 (And.intro r2 hm1))
          clear he0 r1 r2 hm1
          go_wp2_with fail
          refine (PL.out _ (Fr.refl _ _)).mono ?_
          rintro e1 w1 ⟨rfl, hf1, g1⟩
          go_wp2_with (go_at_call 9; refine (num_any _ _).mono ?_; rintro e9 w9 ⟨rfl, rfl⟩)
          refine (LS.out _ hf1).mono ?_
          rintro e2 w2 ⟨a2, c2, rfl, ht2, hf2, g2⟩
          go_wp2_with (go_at_call 9; refine (num_any _ _).mono ?_; rintro e9 w9 ⟨rfl, rfl⟩)
          refine (same_at a a2 cp c2 n m1 l (k1.map Tok.pt) w w2 hf2 (HV.out.2.2.1.fr hf2) ht2 HV.out.2.2.2.1 (by rw [List.length_map, HR.out.2.2]) (by omega) (by have := (lex14_facts HR.out.1).1; have := HR.out.2.2; omega) true HR.out.2.1).mono ?_
          rintro e3 w3 ⟨rfl, hf3, g3⟩
          clear ht2
          go_wp2_with (go_at_call 9; refine (num_any _ _).mono ?_; rintro e9 w9 ⟨rfl, rfl⟩)
          refine (LT.out _ hf3).mono ?_
          rintro e4 w4 ⟨a4, c4, rfl, ht4, hf4, g4⟩
          by_cases hf0 : f = 0
          · obtain ⟨T, again, q1, q2, q3, q4⟩ := back_two t.data.toList (by rw [Lib.size_eq] at hb4; exact hb4) k p (by rw [HK.out, hf0])
            have hf0b : ((f : Int) != 0) = false := by rw [hf0]; rfl
            have hTl : T.length ≤ 1048576 := by have := print14_ok q1; rw [this.2.2]; exact this.2.1
            have hkn := lex14_facts HK.out
            have han := lex14_facts q2
            obtain ⟨m, hm⟩ : ∃ m, again.length = m := ⟨_, rfl⟩
            have htl : t.data.toList.length ≤ 5000 := by rw [Lib.size_eq] at hb4; exact hb4
            have P2 := Lib.hid (fun wx (hf : Fr No w wx) ha => print_at a4 c4 kn (k.map Tok.pt) w wx HV.out.2.1 hf ha (by rw [List.length_map, HKN.out]) (by have := HKN.out; omega) hkn.2 (by have := (print14_ok q1).2.1; unfold maxText at this; omega) T 0 q1)
            have L2 := Lib.hid (fun wx (hf : Fr No w wx) => lex_at ⟨T.toArray⟩ w wx HV.out.1 h8 (by show T.toArray.size ≤ _; rw [List.size_toArray]; omega) hf again 0 0 m q2 hm)
            have HQ := Lib.hid (And.intro q3 (And.intro q4 (And.intro hkn han)))
            have HM := Lib.hid hm
            have HT4 := Lib.hid ht4
            clear hf0 q1 q2 q3 q4 hkn han hm ht4
            go_wp2_with (go_at_call 9; refine (num_any _ _).mono ?_; rintro e9 w9 ⟨rfl, rfl⟩)
            refine (P2.out _ hf4 HT4.out).mono ?_
            rintro e5 w5 ⟨rfl, hf5, g5⟩
            go_wp2_with (go_at_call 9; refine (num_any _ _).mono ?_; rintro e9 w9 ⟨rfl, rfl⟩)
            refine (L2.out _ hf5).mono ?_
            rintro e6 w6 ⟨a6, c6, rfl, ht6, hf6, g6⟩
            go_wp2_with (go_at_call 9; refine (num_any _ _).mono ?_; rintro e9 w9 ⟨rfl, rfl⟩)
            refine (print_at a6 c6 m (again.map Tok.pt) w w6 HV.out.2.1 hf6 ht6 (by rw [List.length_map, HM.out]) (by have := HM.out; have := HQ.out.2.2.2.1; omega) HQ.out.2.2.2.2 (by have := (print14_ok HQ.out.1).2.1; unfold maxText at this; omega) T 0 HQ.out.1).mono ?_
            rintro e7 w7 ⟨rfl, hf7, g7⟩
            go_wp2_with (go_at_call 9; refine (num_any _ _).mono ?_; rintro e9 w9 ⟨rfl, rfl⟩)
            refine (same_at a4 a6 c4 c6 kn m (k.map Tok.pt) (again.map Tok.pt) w w7 hf7 (HT4.out.fr (g5.trans_same (g6.trans_same g7))) (ht6.fr g7) (by rw [List.length_map, HKN.out]) (by rw [List.length_map, HM.out]) (by have := HKN.out; have := HQ.out.2.2.1.1; omega) (by have := HM.out; have := HQ.out.2.2.2.1; omega) true HQ.out.2.1).mono ?_
            rintro e8 w8 ⟨rfl, hf8, g8⟩
            go_wp2_with (first | (go_at_call 9; refine (num_any _ _).mono ?_; rintro e9 w9 ⟨rfl, rfl⟩) | (go_at_call 10; refine (WK.out _ hf8).mono ?_; rintro e10 w10 ⟨rfl, hf10⟩))
            go_ret
            exact ⟨rfl, hf10⟩
          · have hf0b : ((f : Int) != 0) = true := by simp; omega
            have hk0 : kn = 0 := by rw [← HKN.out, show k = [] by have := lex14_err (s := t.data.toList) (by rw [HK.out]; exact hf0); rw [HK.out] at this; exact this]; rfl
            have hk0b : ((kn : Int) == 0) = true := by rw [hk0]; rfl
            clear hk0 hf0 ht4
            go_wp2_with (first | (go_at_call 9; refine (num_any _ _).mono ?_; rintro e9 w9 ⟨rfl, rfl⟩) | (go_at_call 10; refine (WK.out _ hf4).mono ?_; rintro e10 w10 ⟨rfl, hf10⟩))
            go_ret
            exact ⟨rfl, hf10⟩
        · have he0b : ((e : Int) == 0) = false := beq_eq_false_iff_ne.2 (by omega)
          have hs0 : s = [] := by have := print14_err (l := l) (by rw [HP.out]; exact he0); rw [HP.out] at this; exact this
          rw [hs0] at PL
          clear he0
          go_wp2_with fail
          refine (PL.out _ (Fr.refl _ _)).mono ?_
          rintro e1 w1 ⟨rfl, hf1, g1⟩
          go_wp2_with (go_at_call 9; refine (num_any _ _).mono ?_; rintro e9 w9 ⟨rfl, rfl⟩)
          refine (LT.out _ hf1).mono ?_
          rintro e4 w4 ⟨a4, c4, rfl, ht4, hf4, g4⟩
          by_cases hf0 : f = 0
          · obtain ⟨T, again, q1, q2, q3, q4⟩ := back_two t.data.toList (by rw [Lib.size_eq] at hb4; exact hb4) k p (by rw [HK.out, hf0])
            have hf0b : ((f : Int) != 0) = false := by rw [hf0]; rfl
            have hTl : T.length ≤ 1048576 := by have := print14_ok q1; rw [this.2.2]; exact this.2.1
            have hkn := lex14_facts HK.out
            have han := lex14_facts q2
            obtain ⟨m, hm⟩ : ∃ m, again.length = m := ⟨_, rfl⟩
            have htl : t.data.toList.length ≤ 5000 := by rw [Lib.size_eq] at hb4; exact hb4
            have P2 := Lib.hid (fun wx (hf : Fr No w wx) ha => print_at a4 c4 kn (k.map Tok.pt) w wx HV.out.2.1 hf ha (by rw [List.length_map, HKN.out]) (by have := HKN.out; omega) hkn.2 (by have := (print14_ok q1).2.1; unfold maxText at this; omega) T 0 q1)
            have L2 := Lib.hid (fun wx (hf : Fr No w wx) => lex_at ⟨T.toArray⟩ w wx HV.out.1 h8 (by show T.toArray.size ≤ _; rw [List.size_toArray]; omega) hf again 0 0 m q2 hm)
            have HQ := Lib.hid (And.intro q3 (And.intro q4 (And.intro hkn han)))
            have HM := Lib.hid hm
            have HT4 := Lib.hid ht4
            clear hf0 q1 q2 q3 q4 hkn han hm ht4
            go_wp2_with (go_at_call 9; refine (num_any _ _).mono ?_; rintro e9 w9 ⟨rfl, rfl⟩)
            refine (P2.out _ hf4 HT4.out).mono ?_
            rintro e5 w5 ⟨rfl, hf5, g5⟩
            go_wp2_with (go_at_call 9; refine (num_any _ _).mono ?_; rintro e9 w9 ⟨rfl, rfl⟩)
            refine (L2.out _ hf5).mono ?_
            rintro e6 w6 ⟨a6, c6, rfl, ht6, hf6, g6⟩
            go_wp2_with (go_at_call 9; refine (num_any _ _).mono ?_; rintro e9 w9 ⟨rfl, rfl⟩)
            refine (print_at a6 c6 m (again.map Tok.pt) w w6 HV.out.2.1 hf6 ht6 (by rw [List.length_map, HM.out]) (by have := HM.out; have := HQ.out.2.2.2.1; omega) HQ.out.2.2.2.2 (by have := (print14_ok HQ.out.1).2.1; unfold maxText at this; omega) T 0 HQ.out.1).mono ?_
            rintro e7 w7 ⟨rfl, hf7, g7⟩
            go_wp2_with (go_at_call 9; refine (num_any _ _).mono ?_; rintro e9 w9 ⟨rfl, rfl⟩)
            refine (same_at a4 a6 c4 c6 kn m (k.map Tok.pt) (again.map Tok.pt) w w7 hf7 (HT4.out.fr (g5.trans_same (g6.trans_same g7))) (ht6.fr g7) (by rw [List.length_map, HKN.out]) (by rw [List.length_map, HM.out]) (by have := HKN.out; have := HQ.out.2.2.1.1; omega) (by have := HM.out; have := HQ.out.2.2.2.1; omega) true HQ.out.2.1).mono ?_
            rintro e8 w8 ⟨rfl, hf8, g8⟩
            go_wp2_with (first | (go_at_call 9; refine (num_any _ _).mono ?_; rintro e9 w9 ⟨rfl, rfl⟩) | (go_at_call 10; refine (WK.out _ hf8).mono ?_; rintro e10 w10 ⟨rfl, hf10⟩))
            go_ret
            exact ⟨rfl, hf10⟩
          · have hf0b : ((f : Int) != 0) = true := by simp; omega
            have hk0 : kn = 0 := by rw [← HKN.out, show k = [] by have := lex14_err (s := t.data.toList) (by rw [HK.out]; exact hf0); rw [HK.out] at this; exact this]; rfl
            have hk0b : ((kn : Int) == 0) = true := by rw [hk0]; rfl
            clear hk0 hf0 ht4
            go_wp2_with (first | (go_at_call 9; refine (num_any _ _).mono ?_; rintro e9 w9 ⟨rfl, rfl⟩) | (go_at_call 10; refine (WK.out _ hf4).mono ?_; rintro e10 w10 ⟨rfl, hf10⟩))
            go_ret
            exact ⟨rfl, hf10⟩
end Go.Proofs.YtinodapgldbljaaDoor
