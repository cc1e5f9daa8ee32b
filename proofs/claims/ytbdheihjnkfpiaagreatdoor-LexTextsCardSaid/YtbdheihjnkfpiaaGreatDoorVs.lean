/-
  protolex.Same walked (slices.EqualFunc at tokens).
-/
import Derived.Test.YtbdheihjnkfpiaaGreatDoorVi
import Derived.Deep.CutBlock
namespace Go.Proofs.YtbdheihjnkfpiaaGreatDoor
open Go Go.RowKit
theorem abs_world' {P : Program} {c : Code} {Q : Exit → Act → World → Prop} {a : Act} {w : World} (F : World → Prop) (hF : F w) (h : ∀ W, F W → c.wp P Q a W) : c.wp P Q a w := h w hF
theorem int_nat (n o : Nat) : ((n : Int) == (o : Int)) = (n == o) := by rw [Bool.eq_iff_iff, beq_iff_eq, beq_iff_eq]; omega
set_option maxRecDepth 100000 in
set_option maxHeartbeats 2000000 in
theorem same1_any (x y : PT) (w : World) :
    Calls Tryz.prog 38 #[ptV x, ptV y] w fun e w' => e = .returned (.bool (sameOne x y)) ∧ Fr No w w' := by
  obtain ⟨k, p, t, n⟩ := x
  obtain ⟨m, q, u, o⟩ := y
  unfold ptV ptCells sameOne
  dsimp only
  obtain ⟨X, hX⟩ : ∃ X : ByteArray, X = ⟨t.toArray⟩ := ⟨_, rfl⟩
  obtain ⟨Y, hY⟩ : ∃ Y : ByteArray, Y = ⟨u.toArray⟩ := ⟨_, rfl⟩
  rw [← hX, ← hY]
  have e2 : (X.toList == Y.toList) = (t == u) := by rw [ByteArray.toList_eq, ByteArray.toList_eq, hX, hY]
  have e3 := int_nat n o
  clear hX hY
  have h1 := heap_alloc2_old w (.cells #[.int .i64 k, .int .i64 p, .string X, .int .u64 n] 33) (.cells #[.int .i64 m, .int .i64 q, .string Y, .int .u64 o] 33)
  have h2 := heap_alloc2_new w (.cells #[.int .i64 k, .int .i64 p, .string X, .int .u64 n] 33) (.cells #[.int .i64 m, .int .i64 q, .string Y, .int .u64 o] 33)
  have HH := Lib.hid (And.intro h1 h2)
  clear h1 h2
  generalize (t == u) = b2 at e2
  generalize (n == o) = b3 at e3
  obtain ⟨b1, e1⟩ : ∃ b1, (k == m) = b1 := ⟨_, rfl⟩
  rw [e1]
  go_enter Tryz.func38, Tryz.ntmps38
  cases b1 <;> cases b2 <;> cases b3
  all_goals
    go_wp2_with fail
    go_ret
    exact ⟨rfl, ((Fr.refl _ _).alloc _).alloc _⟩
theorem same14_len' : ∀ (a b : List PT), same14 a b = true → a.length = b.length
  | [], [], _ => rfl
  | [], _ :: _, h => by cases h
  | _ :: _, [], h => by cases h
  | x :: a, y :: b, h => by
    rw [same14, Bool.and_eq_true] at h
    rw [List.length_cons, List.length_cons, same14_len' a b h.2]
theorem same14_at (l k : List PT) (i : Nat) (h1 : i < l.length) (h2 : i < k.length) : same14 (l.drop i) (k.drop i) = (sameOne l[i] k[i] && same14 (l.drop (i + 1)) (k.drop (i + 1))) := by
  rw [List.drop_eq_getElem_cons h1, List.drop_eq_getElem_cons h2, same14]
theorem Toks.cells4 {w : World} {a : Option Addr} {l : List PT} (h : Toks w a l) (k : Nat) (hk : k < l.length) : ∃ b off, a = some ⟨b, off, none⟩ ∧ b < w.heap.size ∧ w.cell? ⟨b, off + k * 4, none⟩ = some (.int .i64 l[k].kind) ∧ w.cell? ⟨b, off + k * 4 + 1, none⟩ = some (.int .i64 l[k].place) ∧ w.cell? ⟨b, off + k * 4 + 2, none⟩ = some (.string ⟨l[k].text.toArray⟩) ∧ w.cell? ⟨b, off + k * 4 + 3, none⟩ = some (.int .u64 l[k].num) := by
  rcases h with h0 | ⟨b, off, rfl, hb, hc⟩
  · subst h0; simp at hk
  · exact ⟨b, off, rfl, hb, hc k hk 0 _ rfl, hc k hk 1 _ rfl, hc k hk 2 _ rfl, hc k hk 3 _ rfl⟩
theorem Toks.fr {w w' : World} {a : Option Addr} {l : List PT} (h : Toks w a l) (hf : Fr No w w') : Toks w' a l := by
  rcases h with h | ⟨b, off, e, hl, hc⟩
  · exact .inl h
  · exact .inr ⟨b, off, e, Nat.lt_of_lt_of_le hl hf.size, fun j h i v hi => (hf.cell (p := ⟨b, off + j * 4 + i, none⟩) hl (fun h => h)).trans (hc j h i v hi)⟩
set_option maxRecDepth 100000 in
set_option maxHeartbeats 4000000 in
theorem equalFunc_any (a b : Option Addr) (c d : Nat) (l k : List PT) (w : World) (hl : Toks w a l) (hk : Toks w b k) (hbl : l.length ≤ 1000000000) (hbk : k.length ≤ 1000000000) :
    Calls Tryz.prog 37 #[.slice a l.length c, .slice b k.length d, .func (.func 38) #[] #[]] w fun e w' => e = .returned (.bool (same14 l k)) ∧ Fr No w w' := by
  have eg : ∀ args w, (callFunc 38 args).run Tryz.prog w = .ok (.enter 38 args) w := enters_of Tryz.func38 (by kernel_rfl) rfl
  obtain ⟨R, hR⟩ : ∃ R, same14 l k = R := ⟨_, rfl⟩
  rw [hR]
  have HL := Lib.hid (And.intro hl hk)
  have HR := Lib.hid hR
  clear hl hk hR
  obtain ⟨n, hn⟩ : ∃ n, l.length = n := ⟨_, rfl⟩
  obtain ⟨m, hm⟩ : ∃ m, k.length = m := ⟨_, rfl⟩
  rw [hn] at hbl ⊢
  rw [hm] at hbk ⊢
  by_cases hnm : n = m
  · subst hnm
    have HN := Lib.hid (And.intro hn hm)
    clear hn hm
    have hne : ((n : Int) != (n : Int)) = false := by simp
    go_enter Tryz.func37, Tryz.ntmps37
    go_wp2_with fail
    go_loopg [7, 8, 9, 17] n (fun g _ _ _ v wr => ∃ i : Nat, v = .int .i64 i ∧ i ≤ n ∧ Hid (Fr No w wr ∧ R = same14 (l.drop i) (k.drop i)) ∧ g + i = n)
    case atStart => exact ⟨0, rfl, by omega, Lib.hid ⟨Fr.refl _ _, by rw [← HR.out]; rfl⟩, by omega⟩
    case round =>
      obtain ⟨i, rfl, hi, HT, hg⟩ := hrel
      by_cases hlt : i < n
      · have hlt2 : (i : Int) < (n : Int) := by omega
        have h1 : i < l.length := by rw [HN.out.1]; exact hlt
        have h2 : i < k.length := by rw [HN.out.2]; exact hlt
        obtain ⟨b1, o1, ha, hb1, c0, c1, c2, c3⟩ := (HL.out.1.fr HT.out.1).cells4 i h1
        obtain ⟨b2, o2, hb, hb2, d0, d1, d2, d3⟩ := (HL.out.2.fr HT.out.1).cells4 i h2
        subst ha
        subst hb
        have hT := HT.out.2
        rw [same14_at l k i h1 h2] at hT
        generalize l[i] = x at c0 c1 c2 c3 hT
        generalize k[i] = y at d0 d1 d2 d3 hT
        have HC := fun wx => same1_any x y wx
        unfold ptV ptCells at HC
        generalize hs : sameOne x y = q at HC hT
        have HC := Lib.hid HC
        have HF := Lib.hid (fun (o o' : Obj) => (HT.out.1.alloc o).alloc o')
        clear hs h1 h2
        cases q with
        | false =>
          have HT2 := Lib.hid (show R = false by rw [hT]; rfl)
          clear hT HT
          go_wp2_with (go_at_fn 38; refine (HC.out _).mono ?_; rintro e w2 ⟨rfl, hf2⟩)
          go_ret
          exact ⟨by rw [HT2.out]; rfl, (HF.out _ _).trans_same hf2⟩
        | true =>
          have HT2 := Lib.hid (show R = same14 (l.drop (i + 1)) (k.drop (i + 1)) by rw [hT]; rfl)
          clear hT HT
          go_wp2_with (go_at_fn 38; refine (HC.out _).mono ?_; rintro e w2 ⟨rfl, hf2⟩)
          go_roundg (gk - 1)
          case measure => omega
          case rel => exact ⟨i + 1, by go_num, by omega, Lib.hid ⟨(HF.out _ _).trans_same hf2, HT2.out⟩, by omega⟩
      · have hlt2 : ¬ (i : Int) < (n : Int) := by omega
        have HT2 := Lib.hid (show R = true by rw [HT.out.2, List.drop_eq_nil_of_le (by rw [HN.out.1]; omega), List.drop_eq_nil_of_le (by rw [HN.out.2]; omega)]; rfl)
        go_wp2_with fail
        go_ret
        exact ⟨by rw [HT2.out]; rfl, HT.out.1⟩
  · have HRF : Hid (R = false) := Lib.hid (by
      cases R with
      | false => rfl
      | true => exact absurd (by rw [← hn, ← hm]; exact same14_len' _ _ HR.out) hnm)
    have hne : ((n : Int) != (m : Int)) = true := by simp; omega
    clear hnm hn hm
    go_enter Tryz.func37, Tryz.ntmps37
    go_wp2_with fail
    go_ret
    exact ⟨by rw [HRF.out]; rfl, Fr.refl _ _⟩
theorem same_any (a b : Option Addr) (c d : Nat) (l k : List PT) (w : World) (hl : Toks w a l) (hk : Toks w b k) (hbl : l.length ≤ 1000000000) (hbk : k.length ≤ 1000000000) :
    Calls Tryz.prog 15 #[.slice a l.length c, .slice b k.length d] w fun e w' => e = .returned (.bool (same14 l k)) ∧ Fr No w w' := by
  have HC := Lib.hid (equalFunc_any a b c d l k w hl hk hbl hbk)
  generalize same14 l k = R at HC ⊢
  generalize l.length = n at HC ⊢
  generalize k.length = m at HC ⊢
  go_enter Tryz.func15, Tryz.ntmps15
  go_wp2_with (go_at_call 37; refine HC.out.mono ?_; rintro e w' ⟨rfl, hf⟩)
  go_ret
  exact ⟨rfl, hf⟩
end Go.Proofs.YtbdheihjnkfpiaaGreatDoor
