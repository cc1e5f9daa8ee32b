/-
  LexBounds walked: it is true.
-/
import Derived.Test.YtinodapgldbljaaDoorYa
import Derived.Test.YtinodapgldbljaaDoorBp
import Derived.Test.YtinodapgldbljaaDoorWh
import Derived.Deep.LoopGhost
import Derived.Deep.DeepCutAuto
import Derived.Deep.DeepMust
namespace Go.Proofs.YtinodapgldbljaaDoor
open Go Go.RowKit Go.Shelf
attribute [local go_sem] Oper.semAt_some
theorem some_semis (n : Nat) : ∃ s : ByteArray, s.size = n ∧ s.data.toList = List.replicate n 59 := ⟨⟨(List.replicate n 59).toArray⟩, by simp [ByteArray.size], by simp⟩
theorem make_big : ∃ Z : Array Value, Z.size = 1048577 ∧ ∀ wx : World, (Instr.makeSlice 22 (.int .i64 1048577) (.int .i64 1048577)).run Tryd.prog wx = .ok (.slice (some ⟨wx.heap.size, 0, none⟩) 1048577 1048577) (wx.alloc (.cells Z 5)) := by
  obtain ⟨i0, hi, hz0, hz1, hz2⟩ := info_parts infoU8
  exact ⟨_, size_madeCells _ _, fun wx => by
    rw [run_make wx 22 5 i0 (.int .u8 0) Tryd.underlying22 hi hz0 .i64 .i64 1048577 1048577 (by omega) (by omega) (by rw [hz2]; decide) (by omega), hz1]; rfl⟩
theorem Toks.take {w : World} {a : Option Addr} {l : List PT} (h : Toks w a l) (k : Nat) : Toks w a (l.take k) := by
  rcases h with h | ⟨b, off, e, hl, hc⟩
  · exact .inl (by rw [h]; exact List.take_nil)
  · refine .inr ⟨b, off, e, hl, fun j hj i v hv => hc j (by rw [List.length_take] at hj; omega) i v ?_⟩
    rw [List.getElem_take] at hv; exact hv
/-- Lex at a world behind w, where there are tokens: they own a block. -/
theorem lex_own (s : ByteArray) (w wx : World) (hV : Vars w) (h8 : 8 ≤ w.heap.size) (hs : s.size ≤ 100000000) (hf : Fr No w wx) (k : List Tok) (p e n : Nat) (hl : lex14 s.data.toList = (k, p, e)) (hn : k.length = n) (hp : 0 < n) :
    Calls Tryd.prog 6 #[.string s] wx fun en w' => ∃ g cp, en = .returned (.tuple #[.slice (some ⟨g, 0, none⟩) n cp, .int .i64 p, .int .i64 e]) ∧ n ≤ cp ∧ Toks w' (some ⟨g, 0, none⟩) (k.map Tok.pt) ∧ Fr No w w' ∧ Fr No wx w' := by
  subst hn
  refine (Lex_any s wx (hV.kept_no hf) (Nat.le_trans h8 hf.size) (by unfold maxLen; omega)).mono ?_
  rintro en w' ⟨v, he, ho, hf'⟩
  rw [hl] at he ho
  obtain ⟨a, cp, hv, ht⟩ := ho.toks
  unfold OwnsT at ho
  rcases ho.2 with ⟨hv2, hn⟩ | ⟨g, cap, cur, hv2, hb, hg, hc, hm⟩
  · dsimp only at hn; exact absurd hn (by omega)
  · dsimp only at hv hv2
    rw [hv] at hv2
    cases hv2
    subst hv
    exact ⟨g, cp, he, hc, ht, hf.trans_same hf', hf'⟩
theorem func_nil (p : Value) (w : World) : (binOp .eql 30 (.func (.func 23) #[] #[p]) .nilFunc).run Tryd.prog w = .ok (.bool false) w := by kernel_rfl
/-- A range over All where nothing comes. -/
theorem range_none {g : Operand} {ps : Array Tmp} {body : Code} {Q : Exit → Act → World → Prop} {a : Act} (Bs : Nat) (X : Nat → Prop) (w : World) (hg : a.eval g = .func (.func 23) #[] #[.pointer (some ⟨Bs, 0, none⟩)])
    (hs : SeqStopsK Fence.wide 8 Tryd.prog 23 #[.pointer (some ⟨Bs, 0, none⟩)] (encT []) (KeepX X) (fun ys => ys = List.range 0) (fun pre => ∃ k, k ≤ 0 ∧ pre = List.range k) 0 w) (hps : ps.size = 2)
    (h : ∀ (D : Nat) (W : World), w.heap.size ≤ D → Below w.heap.size w W → W.heap[D]? = some (.deferred (some [])) → Q .normal { a with defers := { target := .collected D, args := #[] } :: a.defers } W) :
    (Code.rangeFunc g ps .skip body).wp Tryd.prog Q a w := by
  refine wpIn_wide.1 (wpIn_rangeFunc_ownG (F := Fence.wide) (n := 9) rfl (by omega) (gf := 23) (lb := #[.pointer (some ⟨Bs, 0, none⟩)]) hg trivial (enters_of Tryd.func23 (by kernel_rfl) rfl) hs (fun h k => h.trans k) (fun W l o o' _ h hc _ => KeepX.put W l o o' h hc) (Below.refl _ _) (fun _ => hps.symm)
    (fun _ W => Below w.heap.size w W) (fun _ _ _ => False) (ownFrom_below (Nat.le_refl _) (Nat.le_refl _)) (fun _ _ _ _ _ h _ _ => h) (Below.refl _ _) (fun x => { tmps := (ps.zip (encT [] x)).foldl (fun t (p, v) => t.setIfInBounds p v) a.tmps, defers := [] }) ?_ ?_ ?_ ?_)
  · intro l x W K hK
    exact wpIn_skip hK
  · exact fun l pre x W _ h => absurd h (Nat.not_lt_zero _)
  · exact fun D xs W hD _ hB hDf => h D W hD hB hDf
  · exact fun D c pre W _ _ h _ => h.elim
theorem results_bounds (tmps : Array Value) (w : World) (b : Nat) (h : tmps.getD 0 undef = .pointer (some ⟨b, 0, none⟩)) (hc : w.cell? ⟨b, 0, none⟩ = some (.bool true)) :
    (results Tryd.f3 tmps).run Tryd.prog w = .ok (.bool true) w := by
  have h' : tmps[0]?.getD undef = .pointer (some ⟨b, 0, none⟩) := by simpa using h
  simp [results, Tryd.results3, go_sem, h', hc]
/-- A block of bytes: how many, and how many of them are ';' already. -/
theorem byteAt' (s : ByteArray) (k : Nat) (hk : k < s.size) : s.data.toList[k]? = some s[k] := by
  have h' : k < s.data.toList.length := by simpa using hk
  rw [List.getElem?_eq_getElem h']
  simp
  rfl
def Semis (w : World) (B i : Nat) : Prop := ∃ C : Array Value, w.heap[B]? = some (.cells C 5 (0, 0)) ∧ C.size = 1048577 ∧ ∀ j, j < i → C[j]? = some (.int .u8 59)
theorem Semis.fr {w w' : World} {B i : Nat} (h : Semis w B i) (hf : Fr No w w') : Semis w' B i := by
  obtain ⟨C, h1, h2⟩ := h
  exact ⟨C, hf.at h1 (fun h => h), h2⟩
theorem Semis.cell {w : World} {B i : Nat} (h : Semis w B i) (j : Nat) (hj : j < 1048577) : (∃ u, w.cell? ⟨B, j, none⟩ = some u) ∧ w.frozen? ⟨B, j, none⟩ = false ∧ B < w.heap.size := by
  obtain ⟨C, h1, h2, h3⟩ := h
  exact ⟨⟨C[j], by simp [World.cell?, h1, h2, hj]⟩, by simp [World.frozen?, h1], lt_of_block h1⟩
theorem Semis.step {w : World} {B i : Nat} (h : Semis w B i) (hi : i < 1048577) : Semis (w.setCell ⟨B, i, none⟩ (.int .u8 59)) B (i + 1) := by
  obtain ⟨C, h1, h2, h3⟩ := h
  refine ⟨C.setIfInBounds i (.int .u8 59), heap_setCell_same w B i _ _ _ h1, by simp [h2], fun j hj => ?_⟩
  rw [Array.getElem?_setIfInBounds]
  by_cases e : i = j
  · rw [if_pos e, if_pos (by omega)]
  · rw [if_neg e]; exact h3 j (by omega)
theorem Semis.conv {w : World} {B : Nat} (h : Semis w B 1048577) (s : ByteArray) (n cap : Nat) (hs : s.data.toList = List.replicate n 59) (hn : s.size = n) (hn2 : n ≤ 1048577) :
    (convert 22 9 (.slice (some ⟨B, 0, none⟩) n cap)).run Tryd.prog w = .ok (.string s) w := by
  obtain ⟨C, h1, h2, h3⟩ := h
  have hB : Lib.Bytes w B 0 s := fun i hi => by
    have e : s[i] = 59 := by
      have e1 : s.data.toList[i]? = some s[i] := byteAt' s i hi
      rw [hs, List.getElem?_replicate, if_pos (by omega)] at e1
      exact (Option.some.inj e1).symm
    have e2 : w.cell? ⟨B, 0 + i, none⟩ = C[0 + i]? := by simp [World.cell?, h1]
    rw [e2, h3 (0 + i) (by omega), e]; rfl
  have := Lib.run_convert_whole (P := Tryd.prog) w 22 5 9 Tryd.underlying22 Tryd.underlying5 Tryd.underlying9 B 0 s hB cap
  rw [hn] at this
  exact this
set_option maxRecDepth 100000 in
set_option maxHeartbeats 8000000 in
theorem lexBounds_any (w : World) (hV : Vars w) (h8 : 8 ≤ w.heap.size) (htab : Lib.TabIs Tryd.prog w "internal/strconv.uint64pow10" .u64 Lib.pow10Tab) :
    Calls Tryd.prog 3 #[] w fun e w' => e = .returned (.bool true) ∧ Fr No w w' := by
  have WK := Lib.hid (fun wx hf => works_at w wx hV h8 htab hf)
  have HV := Lib.hid (And.intro hV htab)
  clear hV htab
  refine callsIn_wide.1 (callsIn_of_wp_marks (n := 9) Tryd.func3 rfl trivial (wpIn_wide.2 ?_) rfl)
  simp only [Tryd.ntmps3, List.size_toArray, List.length_nil, Nat.reduceSub, Array.replicate_succ, Array.replicate_zero, List.push_toArray, List.append_toArray, List.nil_append, List.cons_append]
  obtain ⟨Z, hZ, hmk⟩ := make_big
  have HMK := Lib.hid (And.intro hZ hmk)
  have hmk1 := hmk (w.alloc (.cells #[.bool false] 4))
  clear hmk hZ
  go_wp2_with fail
  go_loopg [2] 1048577 (fun g v wr => ∃ i : Nat, v = .int .i64 i ∧ i ≤ 1048577 ∧ Hid (Semis wr (w.heap.size + 1) i ∧ Fr No w wr ∧ wr.heap[w.heap.size]? = some (.cells #[.bool false] 4 (0, 0))) ∧ g + i = 1048577)
  case atStart => exact ⟨0, rfl, by omega, Lib.hid ⟨⟨Z, by simpa using heap_alloc_new (w.alloc (.cells #[.bool false] 4)) (.cells Z 5), HMK.out.1, fun j hj => absurd hj (Nat.not_lt_zero _)⟩, ((Fr.refl _ _).alloc _).alloc _, at_alloc (heap_alloc_new w _) _⟩, by omega⟩
  case round =>
    obtain ⟨i, rfl, hi, HB, hg⟩ := hrel
    by_cases hlt : i < 1048577
    · obtain ⟨⟨u, hu⟩, hfz, hBl⟩ := HB.out.1.cell i hlt
      have HB2 := Lib.hid (And.intro (HB.out.1.step hlt) (And.intro (HB.out.2.1.setCell ⟨w.heap.size + 1, i, none⟩ (.int .u8 59) (fun h => absurd h (by simp))) ((heap_setCell_other wr ⟨w.heap.size + 1, i, none⟩ w.heap.size (.int .u8 59) (by simp)).trans HB.out.2.2)))
      have hlt2 : (i : Int) < 1048577 := by omega
      clear HB
      go_wp2_with fail
      go_roundg (gk - 1)
      case measure => omega
      case rel => exact ⟨i + 1, by go_num, by omega, HB2, by omega⟩
    · have hlt2 : ¬ (i : Int) < 1048577 := by omega
      have hi2 : i = 1048577 := by omega
      have HB2 : Hid (Semis wr (w.heap.size + 1) 1048577 ∧ Fr No w wr ∧ wr.heap[w.heap.size]? = some (.cells #[.bool false] 4 (0, 0))) := by rw [hi2] at HB; exact HB
      clear HB hi2
      have HVr := Lib.hid (And.intro (HV.out.1.kept_no HB2.out.2.1) (And.intro (HB2.out.2.1.tab HV.out.2) (Nat.le_trans h8 HB2.out.2.1.size)))
      obtain ⟨s1, hz1, hs1⟩ := some_semis 1048576
      obtain ⟨s2, hz2, hs2⟩ := some_semis 1048577
      obtain ⟨T, hT⟩ : ∃ T, T = semis 0 1048576 := ⟨_, rfl⟩
      have hl1 : lex14 s1.data.toList = (T, 0, 0) := by rw [hs1, hT]; exact lex14_ok (by rw [List.length_replicate]; unfold maxText; omega) (lex_semis _ _)
      have hTl : T.length = 1048576 := by rw [hT]; exact semis_len _ _
      have hl2 : lex14 s2.data.toList = ([], 0, 3) := lex14_long (by rw [hs2, List.length_replicate]; unfold maxText; omega)
      have L1 := Lib.hid (fun wx hf => lex_own s1 wr wx HVr.out.1 HVr.out.2.2 (by omega) hf T 0 0 1048576 hl1 hTl (by omega))
      have L2 := Lib.hid (fun wx hf => lex_at s2 wr wx HVr.out.1 HVr.out.2.2 (by omega) hf [] 0 3 0 hl2 rfl)
      have hcv1 := HB2.out.1.conv s1 1048576 1048577 hs1 hz1 (by omega)
      have CV2 := Lib.hid (fun wx (hf : Fr No wr wx) => (HB2.out.1.fr hf).conv s2 1048577 1048577 hs2 hz2 (by omega))
      have HTT := Lib.hid (And.intro hT hTl)
      have HS2 := Lib.hid (And.intro hs2 hz2)
      have HI := Lib.hid (And.intro hi hg)
      clear hs1 hs2 hT hTl hl1 hl2 hz1 hz2 hi hg hlt hmk1
      go_wp2_with fail
      clear hcv1
      refine (L1.out _ (Fr.refl _ _)).mono ?_
      rintro e1 w1 ⟨g1, c1, rfl, hc1, ht1, hf1, k1⟩
      have hcv2 := CV2.out _ hf1
      go_wp2_with fail
      clear hcv2
      refine (L2.out _ hf1).mono ?_
      rintro e2 w2 ⟨a2, c2, rfl, ht2, hf2, k2⟩
      clear ht2
      have HT1 := Lib.hid (ht1.fr k2)
      have HF := Lib.hid (And.intro hf2 (And.intro k1 k2))
      clear ht1 hf1 hf2 k1 k2
      obtain ⟨S1, hS1, hS1l⟩ := print_semis ((T.map Tok.pt).take 524288) (semis_pt T 524288 1048576 HTT.out.1) (by intro e; have := congrArg List.length e; rw [List.length_take, List.length_map, HTT.out.2] at this; simp at this) (by rw [List.length_take, List.length_map, HTT.out.2]; omega)
      have hS2 := print_semis_long ((T.map Tok.pt).take 524289) (semis_pt T 524289 1048576 HTT.out.1) (by rw [List.length_take, List.length_map, HTT.out.2]; omega)
      have hS1l2 : S1.length = 1048575 := by rw [List.length_take, List.length_map, HTT.out.2] at hS1l; omega
      have TL := Lib.hid (fun k => (tell_semis ((T.map Tok.pt).take k) (semis_pt T k 1048576 HTT.out.1)))
      have TLL := Lib.hid (fun k (hk : k ≤ 1048576) (h1 : 0 < k) => show (tellR true ((T.map Tok.pt).take k)).length ≤ 1000000000 from by
        have h2 : ((T.map Tok.pt).take k).length = k := by rw [List.length_take, List.length_map, HTT.out.2]; omega
        have h3 := (TL.out k).2 (fun e => by rw [e] at h2; simp at h2; omega)
        rw [h2] at h3; omega)
      have TN := Lib.hid (fun k => show ∀ t ∈ (T.map Tok.pt).take k, t.num < 18446744073709551616 from fun t ht => by rw [(semis_pt T k 1048576 HTT.out.1 t ht).2.2]; omega)
      have P1 := Lib.hid (print_at (some ⟨g1, 0, none⟩) c1 524288 ((T.map Tok.pt).take 524288) wr w2 HVr.out.2.1 HF.out.1 (HT1.out.take _) (by rw [List.length_take, List.length_map, HTT.out.2]; omega) (by omega) (TN.out _) (TLL.out _ (by omega) (by omega)) S1 0 hS1)
      have P2 := Lib.hid (fun wx (hf : Fr No wr wx) (hg : Fr No w2 wx) => print_at (some ⟨g1, 0, none⟩) c1 524289 ((T.map Tok.pt).take 524289) wr wx HVr.out.2.1 hf ((HT1.out.fr hg).take _) (by rw [List.length_take, List.length_map, HTT.out.2]; omega) (by omega) (TN.out _) (TLL.out _ (by omega) (by omega)) [] 3 hS2)
      obtain ⟨X1, hX1⟩ : ∃ X1 : ByteArray, X1 = ⟨S1.toArray⟩ := ⟨_, rfl⟩
      have hX1s : X1.size = 1048575 := by rw [hX1]; show S1.toArray.size = _; rw [List.size_toArray]; exact hS1l2
      rw [← hX1] at P1
      have HX := Lib.hid hX1s
      clear hS1 hS2 hS1l hS1l2 hX1 hX1s
      go_wp2_with fail
      rw [show (min (1048576 : Int) 524288).toNat = 524288 from rfl]
      refine P1.out.mono ?_
      rintro e3 w3 ⟨rfl, hf3, k3⟩
      go_wp2_with fail
      rw [show (min (1048576 : Int) 524289).toNat = 524289 from rfl]
      refine (P2.out _ hf3 k3).mono ?_
      rintro e4 w4 ⟨rfl, hf4, k4⟩
      have hcv3 := CV2.out _ hf4
      have HF4 := Lib.hid (And.intro hf4 (k3.trans_same k4))
      clear hf3 k3 hf4 k4
      have hnf := func_nil (.pointer (some ⟨w4.heap.size, 0, none⟩)) (w4.alloc (.cells #[.string s2] 9))
      go_wp2_with (go_at_call 8; refine (All_any _ _).mono ?_; rintro e5 w5 ⟨rfl, rfl⟩)
      clear hnf hcv3
      have hT0 : ([] : List Tok) = (some14 s2.data.toList).1 := by unfold some14; rw [if_pos (by rw [HS2.out.1, List.length_replicate]; unfold maxText; omega)]
      obtain ⟨w5, hw5⟩ : ∃ w5, w5 = w4.alloc (.cells #[.string s2] 9) := ⟨_, rfl⟩
      have hf5 : Fr No w4 w5 := by rw [hw5]; exact (Fr.refl _ _).alloc _
      have hc5 : w5.cell? ⟨w4.heap.size, 0, none⟩ = some (.string s2) := by rw [hw5]; exact new_cell w4 _ _
      rw [← hw5]
      clear hw5
      have HST := all_stops s2 8 (by omega) w4.heap.size No [] hT0 w5 (fun _ _ h => h) hc5 (HVr.out.1.kept_no (HF4.out.1.trans_same hf5)) (Nat.le_trans HVr.out.2.2 (HF4.out.1.trans_same hf5).size) (by rw [HS2.out.2]; unfold maxLen; omega)
      have HF5 := Lib.hid (And.intro (HF4.out.1.trans_same hf5) (HF4.out.2.trans_same hf5))
      clear hf5 hc5 hT0
      refine range_none (w4.heap.size) No w5 rfl HST rfl ?done
      case done =>
        rintro D W hD hBW hDf
        have HD := Lib.hid (And.intro (HF5.out.1.trans_same (Fr.ofBelow hBW)) (And.intro (HF5.out.2.trans_same (Fr.ofBelow hBW)) (And.intro hD hDf)))
        clear hBW hDf hD
        go_wp2_with fail
        refine (lex_own _ wr W HVr.out.1 HVr.out.2.2 (by decide) HD.out.1 bigToks 0 0 3 big_lex14 rfl (by omega)).mono ?_
        rintro e6 w6 ⟨g6, c6, rfl, hc6, ht6, hf6, k6⟩
        have H6 := Lib.hid (And.intro hf6 (And.intro ht6 k6))
        clear ht6 hf6 k6
        go_wp2_with fail
        refine (lex_at _ wr w6 HVr.out.1 HVr.out.2.2 (by decide) H6.out.1 [] 2 4 0 over_ten rfl).mono ?_
        rintro e7 w7 ⟨a7, c7, rfl, ht7, hf7, k7⟩
        clear ht7
        have H7 := Lib.hid (And.intro hf7 k7)
        clear hf7 k7
        go_wp2_with fail
        refine (lex_at _ wr w7 HVr.out.1 HVr.out.2.2 (by decide) H7.out.1 [] 2 4 0 over_hex rfl).mono ?_
        rintro e8 w8 ⟨a8, c8, rfl, ht8, hf8, k8⟩
        clear ht8
        have HT8 := Lib.hid ((H6.out.2.1.fr H7.out.2).fr k8)
        have H8 := Lib.hid (And.intro hf8 ((H6.out.2.2.trans_same H7.out.2).trans_same k8))
        clear hf8 k8
        go_wp2_with fail
        go_loopg [23] 3 (fun g v wq => ∃ i : Nat, v = .int .i64 i ∧ w8 = wq ∧ i ≤ 3 ∧ g + i = 3)
        case atStart => exact ⟨0, rfl, rfl, by omega, by omega⟩
        case round =>
          obtain ⟨j, rfl, rfl, hj, hjg⟩ := hrel
          by_cases hjl : j < 3
          · have hlt3 : (j : Int) < 3 := by omega
            obtain ⟨b9, o9, ha, hb9, d0, d1, d2, d3⟩ := HT8.out.cells4 j hjl
            cases ha
            have hnum : (bigToks.map Tok.pt)[j].num = 18446744073709551615 := by
              have : ∀ k (h : k < 3), (bigToks.map Tok.pt)[k].num = 18446744073709551615 := by decide
              exact this j hjl
            rw [hnum, Nat.zero_add] at d3
            clear d0 d1 d2 hnum
            go_wp2_with fail
            go_roundg (gk - 1)
            case measure => omega
            case rel => exact ⟨j + 1, by go_num, rfl, by omega, by omega⟩
          · have hlt3 : ¬ (j : Int) < 3 := by omega
            have hx1 : ((X1.size : Int) == 1048575) = true := by rw [HX.out]; rfl
            have W8 := Lib.hid (works_at w8 w8 (HVr.out.1.kept_no H8.out.1) (Nat.le_trans HVr.out.2.2 H8.out.1.size) (H8.out.1.tab HVr.out.2.1) (Fr.refl _ _))
            have HR8 := Lib.hid (H8.out.1.at HB2.out.2.2 (fun h => h))
            go_wp2_with (first | (go_at_call 9; refine (num_any _ _).mono ?_; rintro e9 w9 ⟨rfl, rfl⟩) | (go_at_call 10; refine W8.out.mono ?_; rintro e10 w10 ⟨rfl, hf10⟩; have hr10 := hf10.at HR8.out (fun h => h); have hc10 := cell_of_one hr10; have hz10 := free_of_one hr10; have hl10 := lt_of_block hr10; have HF10 := Lib.hid (And.intro hf10 hr10); clear hf10 hr10))
            have hFw := HB2.out.2.1.trans_same (H8.out.1.trans_same HF10.out.1)
            have hRl := lt_of_block HB2.out.2.2
            have hDl : w.heap.size < D := Nat.lt_of_lt_of_le hRl (Nat.le_trans HF5.out.1.size HD.out.2.2.1)
            have hDK : (w10.setCell ⟨w.heap.size, 0, none⟩ (.bool true)).heap[D]? = some (.deferred (some [])) := (heap_setCell_other w10 ⟨w.heap.size, 0, none⟩ D (.bool true) (by simp; omega)).trans (HF10.out.1.at (H8.out.2.at HD.out.2.2.2 (fun h => h)) (fun h => h))
            have hRK := cell_of_one (one_setCell (u := .bool true) HF10.out.2)
            refine ⟨by simp, .inl ⟨_, _, rfl, run_takeDeferred hDK, ?_⟩⟩
            refine ⟨_, results_bounds _ _ w.heap.size rfl (cell_kept hRK (grownBy_putObj' _ D (.deferred none)) (fun r e => by cases e; exact ⟨_, hDK, rfl⟩)), rfl, ?_⟩
            exact (hFw.setCell ⟨w.heap.size, 0, none⟩ _ (fun h => absurd h (Nat.lt_irrefl _))).grown (grownBy_putObj' _ D (.deferred none)) (fun k e h => by cases e; omega)
end Go.Proofs.YtinodapgldbljaaDoor
