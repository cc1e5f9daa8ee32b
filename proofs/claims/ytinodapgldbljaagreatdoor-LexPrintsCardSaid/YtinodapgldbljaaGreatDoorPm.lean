/-
  LexPrints walked: it is true.
-/
import Derived.Test.YtinodapgldbljaaGreatDoorPl
import Derived.BigQuiet
import Derived.Deep.QuietTactic
namespace Go.Proofs.YtinodapgldbljaaGreatDoor
open Go Go.RowKit
theorem t77_cells (W : World) : ∀ j u, (ptCells ⟨0, 77, [], 0⟩)[j]? = some u → (W.alloc (.cells #[.int .i64 0, .int .i64 77, .string ⟨#[]⟩, .int .u64 0] 33)).cell? ((⟨W.heap.size, 0, none⟩ : Addr).add j) = some u := by
  intro j u hu
  have hj : j < 4 := by have := (List.getElem?_eq_some_iff.1 hu).1; simpa [ptCells] using this
  have hadd : (⟨W.heap.size, 0, none⟩ : Addr).add j = ⟨W.heap.size, j, none⟩ := by
    unfold Addr.add
    split
    · rename_i h0; subst h0; rfl
    · rw [Nat.zero_add]
  rw [hadd]
  unfold World.cell?
  rw [heap_alloc_new, ← hu]
  match j, hj with
  | 0, _ => rfl
  | 1, _ => rfl
  | 2, _ => rfl
  | 3, _ => rfl
theorem t77_at (W : World) (n : Nat) (h : W.heap.size = n) : ∀ j u, (ptCells ⟨0, 77, [], 0⟩)[j]? = some u → (W.alloc (.cells #[.int .i64 0, .int .i64 77, .string ⟨#[]⟩, .int .u64 0] 33)).cell? ((⟨n, 0, none⟩ : Addr).add j) = some u := by
  subst h; exact t77_cells W
/-- 'append(own, nil...)': nothing turns. -/
theorem wpList_append_none {w : World} {ops : Array Oper} {rest : List Oper} {o : Oper} {a : Act} {Q : Exit → Act → World → Prop} (hgd : o.guard = none) (s x : Operand)
    (ho : o.op = .call { callee := .builtin .append, args := #[s, x], argTypes := #[23, 23] }) (base n : Nat) (v : Value) (xs : List Value) (hs : a.eval s = v) (hx : a.eval x = .slice none 0 0)
    (hown : w.ownsRow base 33 4 v n xs) (h : wpList Tryz.prog ops Q rest (a.put o.dst v) w) : wpList Tryz.prog ops Q (o :: rest) a w := by
  obtain ⟨i0, hi, hz0, hz1, hz2⟩ := info_parts infoTok
  have hr := run_append_owned_none (P := Tryz.prog) w base 23 o.type 33 i0 4 Tryz.underlying23 hi v n xs hown
  refine wpList_plain hgd fun K hK => ?_
  unfold Oper.wp execOp
  simp only [ho, resolve, invoke, builtin, Sem.run_bind, Sem.run_pure, Result.andThen_ok, List.map_toArray, List.map_cons, List.map_nil, hs, hx, hr]
  exact hK _ _ h
set_option maxRecDepth 100000 in
set_option maxHeartbeats 8000000 in
/-- LexPrints is true. -/
theorem lexPrints_any (a : Option Addr) (cp n : Nat) (l : List PT) (a2 : Option Addr) (c2 m : Nat) (k : List PT) (w : World) (hV : Vars w) (h8 : 8 ≤ w.heap.size) (htab : Lib.TabIs Tryz.prog w "internal/strconv.uint64pow10" .u64 Lib.pow10Tab)
    (hl : Toks w a l) (hn : l.length = n) (hnum : ∀ t ∈ l, t.num < 18446744073709551616) (hk : Toks w a2 k) (hm : k.length = m) (hnb : n ≤ 9223372036854775807) (hmb : m ≤ 9223372036854775807) (hnil : a = none → cp = 0) :
    Calls Tryz.prog 4 #[.slice a n cp, .slice a2 m c2] w fun e w' => e = .returned (.bool true) ∧ Fr No w w' := by
  have WK := Lib.hid (fun wx hf => works_at w wx hV h8 htab hf)
  have HV := Lib.hid (And.intro hV (And.intro htab (And.intro hl (And.intro hn hnum))))
  have HK := Lib.hid (And.intro hk (And.intro hm hnil))
  clear hV htab hl hn hnum hk hm hnil
  by_cases hbig : 300 < n ∨ 300 < m
  · have hb2 : (300 : Int) < (n : Int) ∨ (¬ (300 : Int) < (n : Int) ∧ (300 : Int) < (m : Int)) := by omega
    clear hbig
    rcases hb2 with hb2 | ⟨hb1, hb2⟩
    all_goals
      go_enter Tryz.func4, Tryz.ntmps4
      go_wp2_with (go_at_call 6; refine (WK.out _ (Fr.refl _ _)).mono ?_; rintro e w' ⟨rfl, hf⟩)
      go_ret
      exact ⟨rfl, hf⟩
  · have hb1 : ¬ (300 : Int) < (n : Int) := by omega
    have hb2 : ¬ (300 : Int) < (m : Int) := by omega
    have hb3 : n ≤ 300 := by omega
    have hb4 : m ≤ 300 := by omega
    clear hbig
    go_enter Tryz.func4, Tryz.ntmps4
    go_wp2_with fail
    go_loopg [5] n (fun g v wr => ∃ i : Nat, v = .int .i64 i ∧ w = wr ∧ i ≤ n ∧ Hid (∀ j (hj : j < l.length), j < i → l[j].text.length ≤ 5000) ∧ g + i = n)
    case atStart => exact ⟨0, rfl, rfl, by omega, Lib.hid (fun j hj h => absurd h (Nat.not_lt_zero _)), by omega⟩
    case round =>
      obtain ⟨i, rfl, rfl, hi, HT, hg⟩ := hrel
      by_cases hlt : i < n
      · have hlt2 : (i : Int) < (n : Int) := by omega
        have h1 : i < l.length := by rw [HV.out.2.2.2.1]; exact hlt
        obtain ⟨b1, o1, ha, hb1', c0, c1, c2, c3⟩ := HV.out.2.2.1.cells4 i h1
        subst ha
        obtain ⟨x, hx⟩ : ∃ x, x = l[i].text.length := ⟨_, rfl⟩
        obtain ⟨X, hX⟩ : ∃ X : ByteArray, X = ⟨l[i].text.toArray⟩ := ⟨_, rfl⟩
        rw [← hX] at c2
        have hXs : X.size = x := by rw [hX, hx]; rfl
        by_cases hc : 5000 < x
        · have hc2 : (5000 : Int) < (X.size : Int) := by omega
          clear c0 c1 c3 hX hx hXs
          go_wp2_with (go_at_call 6; refine (WK.out _ (Fr.refl _ _)).mono ?_; rintro e w' ⟨rfl, hf⟩)
          go_ret
          exact ⟨rfl, hf⟩
        · have hc2 : ¬ (5000 : Int) < (X.size : Int) := by omega
          have HT2 : Hid (∀ j (hj : j < l.length), j < i + 1 → l[j].text.length ≤ 5000) := Lib.hid (fun j hj h => by
            by_cases e : j = i
            · subst e; omega
            · exact HT.out j hj (by omega))
          clear c0 c1 c3 hX hx hXs hc HT
          go_wp2_with fail
          go_roundg (gk - 1)
          case measure => omega
          case rel => exact ⟨i + 1, by go_num, rfl, by omega, HT2, by omega⟩
      · have hlt2 : ¬ (i : Int) < (n : Int) := by omega
        have HX : Hid (∀ t ∈ l, t.text.length ≤ 5000) := Lib.hid (fun t ht => by
          obtain ⟨j, hj, rfl⟩ := List.mem_iff_getElem.1 ht
          exact HT.out j hj (by have := HV.out.2.2.2.1; omega))
        have HLEN : Hid ((tellR true l).length ≤ 1000000000) := Lib.hid (by
          have h1 := tellR_len l 5000 HV.out.2.2.2.2 HX.out true
          have h2 := HV.out.2.2.2.1
          have h3 : l.length * (4 * 5000 + 21) ≤ 300 * (4 * 5000 + 21) := Nat.mul_le_mul_right _ (by omega)
          omega)
        obtain ⟨s, e, hp⟩ : ∃ s e, print14 l = (s, e) := ⟨_, _, rfl⟩
        obtain ⟨r, hr⟩ : ∃ r, same14 l k = r := ⟨_, rfl⟩
        have hr2 : same14 k l = r := by rw [same14_symm]; exact hr
        obtain ⟨i0, hi0, hz0, hz1, hz2⟩ := info_parts infoTok
        have PL := Lib.hid (fun ax cx wx (hf : Fr No w wx) (ht : Toks wx ax l) => print_at ax cx n l w wx HV.out.2.1 hf ht HV.out.2.2.2.1 (by omega) HV.out.2.2.2.2 HLEN.out s e hp)
        have PR := Lib.hid (fun wx (hf : Fr No w wx) => rprint_at a cp n l w wx HV.out.2.1 hf (HV.out.2.2.1.fr hf) HV.out.2.2.2.1 (by omega) HV.out.2.2.2.2 (fun t ht => Nat.le_trans (HX.out t ht) (by decide)) HLEN.out s e hp)
        have S1 := Lib.hid (fun wx (hf : Fr No w wx) => same_at a a2 cp c2 n m l k w wx hf (HV.out.2.2.1.fr hf) (HK.out.1.fr hf) HV.out.2.2.2.1 HK.out.2.1 (by omega) (by omega) r hr)
        have S2 := Lib.hid (fun wx (hf : Fr No w wx) => same_at a2 a c2 cp m n k l w wx hf (HK.out.1.fr hf) (HV.out.2.2.1.fr hf) HK.out.2.1 HV.out.2.2.2.1 (by omega) (by omega) r hr2)
        have S3 := Lib.hid (fun wx (hf : Fr No w wx) => rsame_at a a2 cp c2 n m l k w wx hf (HV.out.2.2.1.fr hf) (HK.out.1.fr hf) HV.out.2.2.2.1 HK.out.2.1 (by omega) (by omega) r hr)
        clear hp hr hr2 HT
        cases a with
        | none =>
          have hl0 : l = [] := by
            rcases HV.out.2.2.1 with h | ⟨b, off, ha, _⟩
            · exact h
            · cases ha
          have hn0 : n = 0 := by rw [← HV.out.2.2.2.1, hl0]; rfl
          have hc0 : cp = 0 := HK.out.2.2 rfl
          subst hl0
          subst hn0
          subst hc0
          have OW0 := Lib.hid (World.ownsRow_lit (base := w.heap.size) (e := 33) (size := 4) w #[] 0 (Nat.le_refl _) (by decide) (by rfl))
          go_wp2_with (first | (at_builtin; (refine wpList_append_none rfl _ _ rfl w.heap.size 0 _ [] rfl rfl OW0.out ?_)) | (at_builtin; go_must (refine wpList_append_own (P := Tryz.prog) _ rfl _ _ 23 rfl w.heap.size 33 i0 _ 4 40 Tryz.underlying23 hi0 hz0 hz1 hz2 rfl (by decide) _ 0 [] rfl (by exact OW0.out.alloc _) ⟨_, 0, none⟩ 1 1 (ptCells ⟨0, 77, [], 0⟩) rfl rfl (by exact t77_at _ _ (by simp)) (by decide) (by unfold maxLen; omega) (by omega) (by simp; omega) ?_); intro v2 w2 hown2 hgrow2 _; obtain ⟨g2, cap2, hv2, hcap2, hcm2, hgl2⟩ := own_cap hown2 (by omega); subst hv2; have HO2 := Lib.hid (And.intro hown2 (And.intro hgrow2 hgl2)); clear hown2 hgrow2 hgl2))
          have hf2 : Fr No w w2 := by
            refine (((Fr.refl No w).alloc _).alloc _).grown HO2.out.2.1 ?_
            intro k hk hlt
            have hk2 : some w.heap.size = some k := hk
            cases hk2; omega
          have hall : Toks w2 (some ⟨g2, 0, none⟩) ([] ++ [⟨0, 77, [], 0⟩]) := by
            refine OwnsP.toks (n := 0 + 1) (c := cap2) (base := w.heap.size) ?_ rfl HO2.out.2.2
            have h := HO2.out.1
            unfold OwnsP
            rw [List.flatMap_append]
            simpa using h
          have HA := Lib.hid (And.intro hf2 hall)
          clear hf2 hall
          refine (PL.out _ _ _ HA.out.1 HA.out.2.take).mono ?_
          rintro e3 w3 ⟨rfl, hf3, g3⟩
          have HF3 := Lib.hid (And.intro hf3 g3)
          clear hf3 g3
          go_wp2_with (go_at_call 9; refine (num_any _ _).mono ?_; rintro e9 w9 ⟨rfl, rfl⟩)
          refine (PR.out _ HF3.out.1).mono ?_
          rintro e4 w4 ⟨rfl, hf4, g4⟩
          have HF4 := Lib.hid (And.intro hf4 (HF3.out.2.trans_same g4))
          clear hf4 g4
          go_wp2_with (go_at_call 9; refine (num_any _ _).mono ?_; rintro e9 w9 ⟨rfl, rfl⟩)
          go_loopg [11] 0 (fun g v wr => ∃ i : Nat, v = .int .i64 i ∧ i ≤ 0 ∧ Hid (Fr No w4 wr) ∧ g + i = 0)
          case atStart => exact ⟨0, rfl, by omega, Lib.hid (Fr.refl _ _), by omega⟩
          case round =>
            obtain ⟨i, rfl, hi, HF, hg2⟩ := hrel
            have HW2 := Lib.hid (HF4.out.2.trans_same HF.out)
            have HW := Lib.hid (HF4.out.1.trans_same HF.out)
            have hlt4 : ¬ (i : Int) < 0 := by omega
            obtain ⟨b2, o2, ha2, hb2', d0, d1, d2, d3⟩ := (HA.out.2.fr HW2.out).cells4 0 (by decide)
            have hb2o : b2 = g2 ∧ o2 = 0 := by cases ha2; exact ⟨rfl, rfl⟩
            obtain ⟨rfl, rfl⟩ := hb2o
            have d1 : wr.cell? ⟨b2, 1, none⟩ = some (.int .i64 77) := d1
            clear d0 d2 d3 ha2
            go_wp2_with (go_at_call 9; refine (num_any _ _).mono ?_; rintro e9 w9 ⟨rfl, rfl⟩)
            refine (S1.out _ HW.out).mono ?_
            rintro e5 w5 ⟨rfl, hf5, g5⟩
            go_wp2_with (go_at_call 9; refine (num_any _ _).mono ?_; rintro e9 w9 ⟨rfl, rfl⟩)
            refine (S3.out _ hf5).mono ?_
            rintro e6 w6 ⟨rfl, hf6, g6⟩
            go_wp2_with (go_at_call 9; refine (num_any _ _).mono ?_; rintro e9 w9 ⟨rfl, rfl⟩)
            refine (S2.out _ hf6).mono ?_
            rintro e7 w7 ⟨rfl, hf7, g7⟩
            go_wp2_with (go_at_call 9; refine (num_any _ _).mono ?_; rintro e9 w9 ⟨rfl, rfl⟩)
            refine (S3.out _ hf7).mono ?_
            rintro e8 w8 ⟨rfl, hf8, g8⟩
            go_wp2_with (first | (go_at_call 9; refine (num_any _ _).mono ?_; rintro e9 w9 ⟨rfl, rfl⟩) | (go_at_call 6; refine (WK.out _ hf8).mono ?_; rintro e10 w10 ⟨rfl, hf10⟩))
            go_ret
            exact ⟨rfl, hf10⟩
        | some ad =>
          have HN := Lib.hid (And.intro (show (l.flatMap ptCells).length = n * 4 by rw [flatP_len, HV.out.2.2.2.1]) HV.out.2.2.1.news)
          have HN1 := Lib.hid (flatP_one l)
          have OW0 := Lib.hid (World.ownsRow_lit (base := w.heap.size) (e := 33) (size := 4) w #[] 0 (Nat.le_refl _) (by decide) (by rfl))
          go_wp2_with (first | (at_builtin; (refine wpList_append_own (P := Tryz.prog) _ rfl _ _ 23 rfl w.heap.size 33 i0 _ 4 40 Tryz.underlying23 hi0 hz0 hz1 hz2 rfl (by decide) _ 0 [] rfl (by exact OW0.out) ad n cp (l.flatMap ptCells) rfl HN.out.1 (by exact HN.out.2 _ ((Fr.refl No w).alloc _)) HN1.out (by unfold maxLen; omega) (by omega) (by simp) ?_); intro v1 w1 hown1 hgrow1 _; rw [Nat.zero_add, List.nil_append] at hown1; have HO1 := Lib.hid (And.intro hown1 hgrow1); clear hown1 hgrow1) | (at_builtin; go_must (refine wpList_append_own (P := Tryz.prog) _ rfl _ _ 23 rfl w.heap.size 33 i0 _ 4 40 Tryz.underlying23 hi0 hz0 hz1 hz2 rfl (by decide) _ n (l.flatMap ptCells) rfl (by exact (HO1.out.1.alloc _)) ⟨_, 0, none⟩ 1 1 (ptCells ⟨0, 77, [], 0⟩) rfl rfl (by exact t77_cells _) (by decide) (by unfold maxLen; omega) (by omega) (by have := HO1.out.2.size; simp at this ⊢; omega) ?_); intro v2 w2 hown2 hgrow2 _; obtain ⟨g2, cap2, hv2, hcap2, hcm2, hgl2⟩ := own_cap hown2 (by omega); subst hv2; have HO2 := Lib.hid (And.intro hown2 (And.intro hgrow2 hgl2)); clear hown2 hgrow2 hgl2))
          have hf2 : Fr No w w2 := by
            refine ((((Fr.refl No w).alloc _).grown HO1.out.2 ?_).alloc _).grown HO2.out.2.1 ?_
            · intro k hk hlt
              have hk2 : some w.heap.size = some k := hk
              cases hk2; omega
            · intro k hk hlt
              have h := (World.ownsRow.lt HO1.out.1 k hk).1
              omega
          have hall : Toks w2 (some ⟨g2, 0, none⟩) (l ++ [⟨0, 77, [], 0⟩]) := by
            refine OwnsP.toks (n := n + 1) (c := cap2) (base := w.heap.size) ?_ (by rw [List.length_append, HV.out.2.2.2.1]; rfl) HO2.out.2.2
            have h := HO2.out.1
            unfold OwnsP
            rw [List.flatMap_append]
            simpa using h
          have HA := Lib.hid (And.intro hf2 hall)
          clear hf2 hall
          refine (PL.out _ _ _ HA.out.1 HA.out.2.take).mono ?_
          rintro e3 w3 ⟨rfl, hf3, g3⟩
          have HF3 := Lib.hid (And.intro hf3 g3)
          clear hf3 g3
          go_wp2_with (go_at_call 9; refine (num_any _ _).mono ?_; rintro e9 w9 ⟨rfl, rfl⟩)
          refine (PR.out _ HF3.out.1).mono ?_
          rintro e4 w4 ⟨rfl, hf4, g4⟩
          have HF4 := Lib.hid (And.intro hf4 (HF3.out.2.trans_same g4))
          clear hf4 g4
          go_wp2_with (go_at_call 9; refine (num_any _ _).mono ?_; rintro e9 w9 ⟨rfl, rfl⟩)
          go_loopg [11] n (fun g v wr => ∃ i : Nat, v = .int .i64 i ∧ i ≤ n ∧ Hid (Fr No w4 wr) ∧ g + i = n)
          case atStart => exact ⟨0, rfl, by omega, Lib.hid (Fr.refl _ _), by omega⟩
          case round =>
            obtain ⟨i, rfl, hi, HF, hg2⟩ := hrel
            have HW2 := Lib.hid (HF4.out.2.trans_same HF.out)
            have HW := Lib.hid (HF4.out.1.trans_same HF.out)
            by_cases hlt3 : i < n
            · have hlt4 : (i : Int) < (n : Int) := by omega
              have hil : i < l.length := by rw [HV.out.2.2.2.1]; exact hlt3
              obtain ⟨b1, o1, ha1, hb1', c0, c1, c2, c3⟩ := (HV.out.2.2.1.fr HW.out).cells4 i hil
              obtain ⟨b2, o2, ha2, hb2', d0, d1, d2, d3⟩ := (HA.out.2.take.fr HW2.out).cells4 i hil
              have hb2o : b2 = g2 ∧ o2 = 0 := by cases ha2; exact ⟨rfl, rfl⟩
              obtain ⟨rfl, rfl⟩ := hb2o
              rw [Nat.zero_add] at d0 d1 d2 d3
              have had : ad = ⟨b1, o1, none⟩ := Option.some.inj ha1
              subst had
              generalize l[i] = t at c0 c1 c2 c3 d0 d1 d2 d3
              clear ha1 ha2 hil
              go_wp2_with (first | go_quiet (fail))
              go_roundg (gk - 1)
              case measure => omega
              case rel => exact ⟨i + 1, by go_num, by omega, Lib.hid (HF.out.drewN _), by omega⟩
            · have hlt4 : ¬ (i : Int) < (n : Int) := by omega
              obtain ⟨b2, o2, ha2, hb2', d0, d1, d2, d3⟩ := (HA.out.2.fr HW2.out).cells4 n (by rw [List.length_append, HV.out.2.2.2.1]; exact Nat.lt_succ_self n)
              have hb2o : b2 = g2 ∧ o2 = 0 := by cases ha2; exact ⟨rfl, rfl⟩
              obtain ⟨rfl, rfl⟩ := hb2o
              rw [Nat.zero_add] at d1
              have e77 : (l ++ [(⟨0, 77, [], 0⟩ : PT)])[n]'(by rw [List.length_append, HV.out.2.2.2.1]; exact Nat.lt_succ_self n) = ⟨0, 77, [], 0⟩ := by
                have hn := HV.out.2.2.2.1
                simp [← hn]
              rw [e77] at d1
              clear d0 d2 d3 ha2 e77
              go_wp2_with (go_at_call 9; refine (num_any _ _).mono ?_; rintro e9 w9 ⟨rfl, rfl⟩)
              refine (S1.out _ HW.out).mono ?_
              rintro e5 w5 ⟨rfl, hf5, g5⟩
              go_wp2_with (go_at_call 9; refine (num_any _ _).mono ?_; rintro e9 w9 ⟨rfl, rfl⟩)
              refine (S3.out _ hf5).mono ?_
              rintro e6 w6 ⟨rfl, hf6, g6⟩
              go_wp2_with (go_at_call 9; refine (num_any _ _).mono ?_; rintro e9 w9 ⟨rfl, rfl⟩)
              refine (S2.out _ hf6).mono ?_
              rintro e7 w7 ⟨rfl, hf7, g7⟩
              go_wp2_with (go_at_call 9; refine (num_any _ _).mono ?_; rintro e9 w9 ⟨rfl, rfl⟩)
              refine (S3.out _ hf7).mono ?_
              rintro e8 w8 ⟨rfl, hf8, g8⟩
              go_wp2_with (first | (go_at_call 9; refine (num_any _ _).mono ?_; rintro e9 w9 ⟨rfl, rfl⟩) | (go_at_call 6; refine (WK.out _ hf8).mono ?_; rintro e10 w10 ⟨rfl, hf10⟩))
              go_ret
              exact ⟨rfl, hf10⟩
end Go.Proofs.YtinodapgldbljaaGreatDoor
