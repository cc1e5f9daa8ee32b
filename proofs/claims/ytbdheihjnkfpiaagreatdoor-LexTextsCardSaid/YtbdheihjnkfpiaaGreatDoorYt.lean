/-
  LexTexts walked: it is true.
-/
import Derived.Test.YtbdheihjnkfpiaaGreatDoorYg
import Derived.Test.YtbdheihjnkfpiaaGreatDoorRn
import Derived.Deep.LoopGhost
import Derived.Deep.DeepCutAuto
import Derived.Deep.DeepMust
namespace Go.Proofs.YtbdheihjnkfpiaaGreatDoor
open Go Go.RowKit
theorem rlex_at (s : ByteArray) (w wx : World) (hs : s.size ≤ 1048576) (hf : Fr No w wx) (k : List Tok) (p e n : Nat) (hl : lex14 s.data.toList = (k, p, e)) (hn : k.length = n) :
    Calls Tryz.prog 8 #[.string s] wx fun en w' => ∃ a cp, en = .returned (.tuple #[.slice a n cp, .int .i64 p, .int .i64 e]) ∧ Toks w' a (k.map Tok.pt) ∧ Fr No w w' ∧ Fr No wx w' := by
  subst hn
  refine (rlex_any s wx hs).mono ?_
  rintro en w' ⟨v, he, ho, hf'⟩
  rw [hl] at he ho
  obtain ⟨a, cp, rfl, ht⟩ := ho.toks
  exact ⟨a, cp, he, ht, hf.trans_same hf', hf'⟩
theorem rsome_at (s : ByteArray) (w wx : World) (hs : s.size ≤ 1048576) (hf : Fr No w wx) (k : List Tok) (p e n : Nat) (hl : some14 s.data.toList = (k, p, e)) (hn : k.length = n) :
    Calls Tryz.prog 10 #[.string s] wx fun en w' => ∃ a cp, en = .returned (.tuple #[.slice a n cp, .int .i64 p, .int .i64 e]) ∧ Toks w' a (k.map Tok.pt) ∧ Fr No w w' ∧ Fr No wx w' := by
  subst hn
  refine (rsome_any s wx hs).mono ?_
  rintro en w' ⟨v, he, ho, hf'⟩
  rw [hl] at he ho
  obtain ⟨a, cp, rfl, ht⟩ := ho.toks
  exact ⟨a, cp, he, ht, hf.trans_same hf', hf'⟩
theorem goes_at (s : ByteArray) (T : List Tok) (hT : T = (some14 s.data.toList).1) (Bs : Nat) (leave : Int) (a : Option Addr) (cp m : Nat) (w wx : World) (hf : Fr No w wx) (hm : T.length = m)
    (hBs : wx.cell? ⟨Bs, 0, none⟩ = some (.string s)) (hV : Vars w) (h8 : 8 ≤ w.heap.size) (hs : s.size ≤ maxLen) (hl : Toks wx a (T.map Tok.pt)) :
    Calls Tryz.prog 12 #[.func (.func 25) #[] #[.pointer (some ⟨Bs, 0, none⟩)], .slice a m cp, .int .i64 leave] wx fun e w' => e = .returned (.bool true) ∧ Fr No w w' ∧ Fr No wx w' :=
  (goes_any s T hT Bs leave a cp m wx hm hBs (hV.kept_no hf) (Nat.le_trans h8 hf.size) hs hl).mono fun _ _ ⟨he, hf'⟩ => ⟨he, hf.trans_same hf', hf'⟩
set_option maxRecDepth 100000 in
set_option maxHeartbeats 8000000 in
theorem lexTexts_any (s : ByteArray) (leave : Int) (w : World) (hV : Vars w) (h8 : 8 ≤ w.heap.size) (htab : Lib.TabIs Tryz.prog w "internal/strconv.uint64pow10" .u64 Lib.pow10Tab) :
    Calls Tryz.prog 3 #[.string s, .int .i64 leave] w fun e w' => e = .returned (.bool true) ∧ Fr No w w' := by
  have WK := Lib.hid (fun wx hf => works_at w wx hV h8 htab hf)
  have HV := Lib.hid hV
  clear hV htab
  by_cases hs : 5000 < s.size
  · have hs2 : (5000 : Int) < (s.size : Int) := by omega
    go_enter Tryz.func3, Tryz.ntmps3
    go_wp2_with fail
    refine (WK.out _ (Fr.refl _ _)).mono ?_
    rintro e w' ⟨rfl, hf⟩
    go_wp2_with fail
    go_ret
    exact ⟨rfl, hf⟩
  · have hs2 : ¬ (5000 : Int) < (s.size : Int) := by omega
    obtain ⟨K, p, er, hK⟩ : ∃ K p er, lex14 s.data.toList = (K, p, er) := ⟨_, _, _, rfl⟩
    obtain ⟨S, p2, er2, hS⟩ : ∃ S p2 er2, some14 s.data.toList = (S, p2, er2) := ⟨_, _, _, rfl⟩
    obtain ⟨n, hn⟩ : ∃ n, K.length = n := ⟨_, rfl⟩
    obtain ⟨m, hm⟩ : ∃ m, S.length = m := ⟨_, rfl⟩
    have hST : S = (some14 s.data.toList).1 := by rw [hS]
    have hnl : n ≤ 1048576 := by
      have h1 := some14_len s.data.toList
      rw [← hn]
      have h2 : K = (lex14 s.data.toList).1 := by rw [hK]
      rw [h2]; unfold lex14
      split
      · exact h1
      · exact Nat.zero_le _
    have C1 := Lib.hid (lex_at s w w HV.out h8 (by omega) (Fr.refl _ _) K p er n hK hn)
    have C2 := Lib.hid (fun wx hf => rlex_at s w wx (by omega) hf K p er n hK hn)
    have C3 := Lib.hid (fun wx hf => rsome_at s w wx (by omega) hf S p2 er2 m hS hm)
    have C4 := Lib.hid (fun Bs lv a cp wx hf hB hl => goes_at s S hST Bs lv a cp m w wx hf hm hB HV.out h8 (by unfold maxLen; omega) hl)
    have HN := Lib.hid hn
    clear hK hS hn hm hST
    go_enter Tryz.func3, Tryz.ntmps3
    go_wp2_with fail
    refine C1.out.mono ?_
    rintro e1 w1 ⟨a1, c1, rfl, ht1, hf1, k1⟩
    have H1 := Lib.hid (And.intro ht1 hf1)
    clear ht1 hf1 k1
    go_wp2_with fail
    refine (C2.out _ H1.out.2).mono ?_
    rintro e2 w2 ⟨a2, c2, rfl, ht2, hf2, k2⟩
    have HT1 := Lib.hid (H1.out.1.fr k2)
    have HT2 := Lib.hid ht2
    have H2 := Lib.hid hf2
    clear ht2 hf2 k2
    go_wp2_with (go_at_call 9; refine (num_any _ _).mono ?_; rintro e9 w9 ⟨rfl, rfl⟩)
    go_loopg [11] n (fun g v wq => ∃ i q : Nat, v = .int .i64 i ∧ w2.drewN q = wq ∧ i ≤ n ∧ g + i = n)
    case atStart => exact ⟨0, 0, rfl, rfl, by omega, by omega⟩
    case round =>
      obtain ⟨j, q, rfl, rfl, hj, hjg⟩ := hrel
      by_cases hjl : j < n
      · have hlt3 : (j : Int) < (n : Int) := by omega
        have hjK : j < (K.map Tok.pt).length := by rw [List.length_map, HN.out]; exact hjl
        obtain ⟨b1, o1, rfl, hb1, d0, d1, d2, d3⟩ := HT1.out.cells4 j hjK
        obtain ⟨b2, o2, rfl, hb2, f0, f1, f2, f3⟩ := HT2.out.cells4 j hjK
        generalize (K.map Tok.pt)[j].kind = y0 at d0 f0
        generalize (K.map Tok.pt)[j].place = y1 at d1 f1
        generalize (⟨(K.map Tok.pt)[j].text.toArray⟩ : ByteArray) = y2 at d2 f2
        generalize (K.map Tok.pt)[j].num = y3 at d3 f3
        have HJ := Lib.hid hjg
        clear hjg hjK
        go_wp2_with (go_quiet (fail))
        go_roundg (gk - 1)
        case measure => have := HJ.out; omega
        case rel => exact ⟨j + 1, _, by go_num, rfl, by omega, by have := HJ.out; omega⟩
      · have hlt3 : ¬ (j : Int) < (n : Int) := by omega
        go_wp2_with fail
        refine (C3.out _ (H2.out.drewN q)).mono ?_
        rintro e3 w3 ⟨a3, c3, rfl, ht3, hf3, k3⟩
        have H3 := Lib.hid (And.intro ht3 hf3)
        clear ht3 hf3 k3
        go_wp2_with (go_at_call 11; refine (All_any _ _).mono ?_; rintro e5 w5 ⟨rfl, rfl⟩)
        refine (C4.out w3.heap.size leave a3 c3 _ (H3.out.2.alloc _) (by exact new_cell w3 _ _) (by exact H3.out.1.fr ((Fr.refl _ _).alloc _))).mono ?_
        rintro e6 w6 ⟨rfl, hf6, k6⟩
        have H6 := Lib.hid (And.intro hf6 k6)
        clear hf6 k6
        go_wp2_with fail
        refine (C4.out w3.heap.size 0 a3 c3 _ H6.out.1 ((H6.out.2.cell (p := ⟨w3.heap.size, 0, none⟩) (by simp) (fun h => h)).trans (by exact new_cell w3 _ _)) (by exact (H3.out.1.fr ((Fr.refl _ _).alloc _)).fr H6.out.2)).mono ?_
        rintro e7 w7 ⟨rfl, hf7, k7⟩
        have H7 := Lib.hid hf7
        clear hf7 k7
        go_wp2_with fail
        refine (WK.out _ H7.out).mono ?_
        rintro e8 w8 ⟨rfl, hf8⟩
        go_wp2_with fail
        go_ret
        exact ⟨rfl, hf8⟩
end Go.Proofs.YtbdheihjnkfpiaaGreatDoor
