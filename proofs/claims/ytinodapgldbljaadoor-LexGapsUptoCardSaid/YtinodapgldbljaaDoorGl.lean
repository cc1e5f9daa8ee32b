/-
  LexGaps walked: it is true where no token's text is great.
-/
import Derived.Test.YtinodapgldbljaaDoorGn
import Derived.Laws.BitsLemmas
import Derived.Deep.LoopGhost
import Derived.Deep.DeepCutAuto
import Derived.Deep.DeepMust
import Derived.BigQuiet
import Derived.Deep.QuietTactic
namespace Go.Proofs.YtinodapgldbljaaDoor
open Go Go.RowKit
/-- The gap's bytes as a text. -/
def gapB (g : Nat) : ByteArray := ⟨(gapS g).toArray⟩
theorem gap_cell (W : World) (G : Nat) (hG : G < 8) : (W.alloc (.cells #[.string ⟨#[32]⟩, .string ⟨#[10]⟩, .string ⟨#[47, 42, 42, 47]⟩, .string ⟨#[47, 47, 10]⟩, .string ⟨#[47, 42, 10, 47, 47, 42, 47]⟩, .string ⟨#[9, 11, 12, 13, 32]⟩, .string ⟨#[32, 47, 47, 32, 97, 34, 39, 47, 42, 10]⟩, .string ⟨#[47, 42, 42, 42, 47, 32]⟩] 9)).cell? ⟨W.heap.size, G, none⟩ = some (.string (gapB G)) := by
  unfold World.cell?
  rw [heap_alloc_new]
  match G, hG with
  | 0, _ => rfl
  | 1, _ => rfl
  | 2, _ => rfl
  | 3, _ => rfl
  | 4, _ => rfl
  | 5, _ => rfl
  | 6, _ => rfl
  | 7, _ => rfl
theorem new_cell_at' (w : World) (x : Value) (t : TypeId) (n : Nat) (h : w.heap.size = n) : (w.alloc (.cells #[x] t)).cell? ⟨n, 0, none⟩ = some x := by
  subst h
  unfold World.cell?; rw [heap_alloc_new]; rfl
theorem one_mem {p : PT → Prop} {t : PT} (h : p t) : ∀ t' ∈ [t], p t' := by
  intro t' h'
  rw [List.mem_singleton] at h'
  rw [h']; exact h
theorem placesOf_len : ∀ (p : Nat) (l : List (Nat × PT)), (placesOf p l).length = l.length
  | _, [] => rfl
  | p, (g, t) :: r => by rw [placesOf, List.length_cons, List.length_cons, placesOf_len]
theorem and_seven (x : Int) : ∃ G : Nat, G < 8 ∧ bits .and .i64 x 7 = (G : Int) := by
  have hlt : (BitVec.ofInt 64 x).toNat &&& 7 < 8 := Nat.lt_of_le_of_lt Nat.and_le_right (by decide)
  refine ⟨(BitVec.ofInt 64 x).toNat &&& 7, hlt, ?_⟩
  show IntKind.i64.wrap (((BitVec.ofInt 64 x) &&& (BitVec.ofInt 64 7)).toNat : Int) = _
  rw [BitVec.toNat_and, show (BitVec.ofInt 64 7).toNat = 7 from rfl, IntKind.wrap_i64]
  omega
/-- What the first loop has laid. -/
structure GS (w : World) (l : List PT) (k : Nat) (o : ByteArray) (v6 : Value) (ps : List (Nat × PT)) (W : World) : Prop where
  tx : o.data.toList = laidOf ps
  tk : ps.map (·.2) = l.take k
  my : ∀ x ∈ ps, mayBe x.2 = true
  nm : ∀ x ∈ ps, x.2.num < 18446744073709551616
  ow : OwnsI W w.heap.size v6 (placesOf 0 ps)
  fr : Fr No w W
set_option maxRecDepth 100000 in
set_option maxHeartbeats 8000000 in
/-- LexGaps is true. -/
theorem lexGaps_any (a : Option Addr) (cp n : Nat) (l : List PT) (a2 : Option Addr) (n2 c2 : Nat) (w : World) (hV : Vars w) (h8 : 8 ≤ w.heap.size) (htab : Lib.TabIs Tryd.prog w "internal/strconv.uint64pow10" .u64 Lib.pow10Tab)
    (hl : Toks w a l) (hn : l.length = n) (hnum : ∀ t ∈ l, t.num < 18446744073709551616) (htx : ∀ t ∈ l, t.text.length ≤ 2000000) (hnb : n ≤ 9223372036854775807) (hnb2 : n2 ≤ 9223372036854775807)
    (hg : ∀ i, i < n2 → ∃ b off x, a2 = some ⟨b, off, none⟩ ∧ b < w.heap.size ∧ w.cell? ⟨b, off + i, none⟩ = some (.int .i64 x)) :
    Calls Tryd.prog 5 #[.slice a n cp, .slice a2 n2 c2] w fun e w' => e = .returned (.bool true) ∧ Fr No w w' := by
  have WK := Lib.hid (fun wx hf => works_at w wx hV h8 htab hf)
  have HV := Lib.hid (And.intro hV (And.intro htab (And.intro hl (And.intro hn hnum))))
  have HX := Lib.hid htx
  have HG := Lib.hid hg
  clear hV htab hl hn hnum hg htx
  by_cases hbig : 100 < n
  · have hb1 : (100 : Int) < (n : Int) := by omega
    go_enter Tryd.func5, Tryd.ntmps5
    go_wp2_with (go_at_call 10; refine (WK.out _ (Fr.refl _ _)).mono ?_; rintro e w' ⟨rfl, hf⟩)
    go_ret
    exact ⟨rfl, hf⟩
  · have hb1 : ¬ (100 : Int) < (n : Int) := by omega
    have hb3 : n ≤ 100 := by omega
    clear hbig
    go_enter Tryd.func5, Tryd.ntmps5
    go_wp2_with fail
    go_loopg [5, 6, 7, 8, 9, 10] n (fun g v5 v6 v7 _ _ _ wr => ∃ (k : Nat) (o : ByteArray) (ps : List (Nat × PT)), v7 = .int .i64 k ∧ v5 = .string o ∧ k ≤ n ∧ o.size ≤ 210 * k ∧ Hid (GS w l k o v6 ps wr) ∧ g + k = n)
    case atStart => exact ⟨0, ⟨#[]⟩, [], rfl, rfl, by omega, by decide, Lib.hid ⟨rfl, rfl, fun x h => (List.not_mem_nil h).elim, fun x h => (List.not_mem_nil h).elim, World.ownsRow_nil w w.heap.size _ _, Fr.refl _ _⟩, by omega⟩
    case round =>
      obtain ⟨k, o, ps, rfl, rfl, hk, ho, HS, hg⟩ := hrel
      obtain ⟨va, vc, hv6, _⟩ := HS.out.ow.shape
      subst hv6
      by_cases hlt : k < n
      · have hlt2 : (k : Int) < (n : Int) := by omega
        have hkl : k < l.length := by rw [HV.out.2.2.2.1]; exact hlt
        obtain ⟨b, off, ha, hbw, d0, d1, d2, d3⟩ := (HV.out.2.2.1.fr HS.out.fr).cells4 k hkl
        subst ha
        have hnk := HV.out.2.2.2.2 _ (List.getElem_mem hkl)
        have htk := HX.out _ (List.getElem_mem hkl)
        have HTK := Lib.hid (show l.take (k + 1) = l.take k ++ [l[k]] from List.take_succ_eq_append_getElem hkl)
        generalize l[k] = t at d0 d1 d2 d3 hnk htk HTK
        obtain ⟨s, e, hp⟩ : ∃ s e, print14 [t] = (s, e) := ⟨_, _, rfl⟩
        obtain ⟨m, hm⟩ : ∃ m, s.length = m := ⟨_, rfl⟩
        obtain ⟨S, hS⟩ : ∃ S : ByteArray, S = ⟨s.toArray⟩ := ⟨_, rfl⟩
        have hSm : S.size = m := by rw [hS, ← hm]; rfl
        have hSt : S.data.toList = s := by rw [hS]
        have hlong : (tellR true [t]).length ≤ 1000000000 := by
          have h := tellR_len [t] 2000000 (one_mem (p := fun t => t.num < 18446744073709551616) hnk) (one_mem (p := fun t => t.text.length ≤ 2000000) htk) true
          simp only [List.length_cons, List.length_nil] at h
          omega
        have PL : ∀ wx, Fr No w wx → ∀ ax, Toks wx ax [t] → Calls Tryd.prog 7 #[.slice ax 1 1] wx fun en w' => en = .returned (.tuple #[.string S, .int .i64 e]) ∧ Fr No w w' ∧ Fr No wx w' := fun wx hf ax ht => by
          rw [hS]
          exact print_at ax 1 1 [t] w wx HV.out.2.1 hf ht rfl (by decide) (one_mem (p := fun t => t.num < 18446744073709551616) hnk) hlong s e hp
        have PL := Lib.hid (fun wx hf {g : Nat} ht => PL wx hf (some ⟨g, 0, none⟩) ht)
        by_cases he : e = 0
        · have heb : ((e : Int) != 0) = false := by rw [he]; rfl
          by_cases hm2 : 200 < m
          · have hm3 : (200 : Int) < (S.size : Int) := by omega
            clear hp hm hS he hSm hSt
            go_wp2_with (first | (go_at_call 9; refine (num_any _ _).mono ?_; rintro e9 w9 ⟨rfl, rfl⟩) | (go_at_call 7; go_must (refine (PL.out _ (by exact HS.out.fr.alloc _) (by exact toks_one (heap_alloc_new wr _))).mono ?_); rintro e1 w1 ⟨rfl, hf1, g1⟩; have HF1 := Lib.hid (And.intro hf1 (((Fr.refl No wr).alloc (.cells #[.int .i64 t.kind, .int .i64 t.place, .string ⟨t.text.toArray⟩, .int .u64 t.num] 35)).trans_same g1)); clear hf1 g1) | (go_at_call 10; refine (WK.out _ HF1.out.1).mono ?_; rintro e10 w10 ⟨rfl, hf10⟩))
            go_ret
            exact ⟨rfl, hf10⟩
          · have hm3 : ¬ (200 : Int) < (S.size : Int) := by omega
            have hS200 : S.size ≤ 200 := by omega
            obtain ⟨hmay, hst⟩ := print_one (t := t) (s := s) (by rw [hp, he])
            have HC := Lib.hid (show mayBe t = true ∧ S.data.toList = told t ∧ t.num < 18446744073709551616 ∧ s = told t from ⟨hmay, by rw [hSt, hst], hnk, hst⟩)
            have HPL : Hid (ps.length = k) := Lib.hid (by have := congrArg List.length HS.out.tk; simpa [Nat.min_eq_left (Nat.le_of_lt hkl)] using this)
            clear hp hm hS he hSm hSt hmay hst hm2
            by_cases hk2 : k < n2
            · have hk3 : (k : Int) < (n2 : Int) := by omega
              obtain ⟨gb, go, x, hga, hgw, hgc⟩ := HG.out k hk2
              subst hga
              obtain ⟨G, hG, hand⟩ := and_seven x
              have hGi : (0 : Int) ≤ (G : Int) ∧ (G : Int) < 8 := by omega
              obtain ⟨GB, hGB⟩ : ∃ GB, gapB G = GB := ⟨_, rfl⟩
              have hgcell := fun W => gap_cell W G hG
              rw [hGB] at hgcell
              have hgl := gapS_len G
              have HGB := Lib.hid (show GB.data.toList = gapS G ∧ (gapS G).length = GB.size by rw [← hGB]; exact ⟨rfl, rfl⟩)
              have hGs : GB.size ≤ 10 := by rw [← HGB.out.2]; exact hgl.2
              have hgc2 : ∀ wx, Fr No w wx → wx.cell? ⟨gb, go + k, none⟩ = some (.int .i64 x) := fun wx hf => (hf.cell (p := ⟨gb, go + k, none⟩) hgw id).trans hgc
              have HGC := Lib.hid hgc2
              clear hgc hgc2 hgl hGB hk2
              go_wp2_with (first | (go_at_call 9; refine (num_any _ _).mono ?_; rintro e9 w9 ⟨rfl, rfl⟩) | (go_at_call 7; go_must (refine (PL.out _ (by exact HS.out.fr.alloc _) (by exact toks_one (heap_alloc_new wr _))).mono ?_); rintro e1 w1 ⟨rfl, hf1, g1⟩; have HF1 := Lib.hid (And.intro hf1 (((Fr.refl No wr).alloc (.cells #[.int .i64 t.kind, .int .i64 t.place, .string ⟨t.text.toArray⟩, .int .u64 t.num] 35)).trans_same g1)); clear hf1 g1; have hgc3 := HGC.out w1 HF1.out.1) | (at_builtin; go_must (refine wpList_append_int rfl _ _ rfl w.heap.size _ (placesOf 0 ps) rfl (by exact (HS.out.ow.kept HF1.out.2).kept (((Fr.refl No w1).alloc _).alloc _)) _ _ (o.size + GB.size) rfl (by exact new_cell_at' _ _ _ _ (by simp)) (by rw [placesOf_len, HPL.out]; omega) (by have := HF1.out.1.size; simp; omega) ?_); intro v2 w2 hown2 hf2; have HO2 := Lib.hid hown2; have HF2 := Lib.hid hf2; clear hown2 hf2; obtain ⟨va2, vc2, hv62, _⟩ := HO2.out.shape; subst hv62))
              go_roundg (gk - 1)
              case measure => omega
              case rel =>
                have hfin : Fr No w w2 := (HF1.out.1.alloc _).alloc _ |>.trans HF2.out (fun i hi h => by have h' : w.heap.size ≤ i := h; omega)
                refine ⟨k + 1, _, ps ++ [(G, t)], by go_num, rfl, by omega, by rw [ByteArray.size_append', ByteArray.size_append']; omega, Lib.hid ⟨?_, ?_, ?_, ?_, ?_, hfin⟩, by omega⟩
                · rw [laidOf_app, ← HS.out.tx]; simp [laidOf, HC.out.2.1, HGB.out]
                · rw [List.map_append, HS.out.tk, HTK.out]; rfl
                · intro x hx
                  rcases List.mem_append.1 hx with h | h
                  · exact HS.out.my x h
                  · have : x = (G, t) := by simpa using h
                    rw [this]; exact HC.out.1
                · intro x hx
                  rcases List.mem_append.1 hx with h | h
                  · exact HS.out.nm x h
                  · have : x = (G, t) := by simpa using h
                    rw [this]; exact HC.out.2.2.1
                · have e : placesOf 0 (ps ++ [(G, t)]) = placesOf 0 ps ++ [o.size + GB.size] := by
                    rw [placesOf_app, ← HS.out.tx]
                    simp [placesOf, HGB.out.2]
                  rw [e]
                  have h2 := HO2.out
                  rw [List.length_append] at h2
                  exact h2
            · have hk3 : ¬ (k : Int) < (n2 : Int) := by omega
              obtain ⟨GB, hGB⟩ : ∃ GB, gapB 0 = GB := ⟨_, rfl⟩
              have hgcell := fun W => gap_cell W 0 (by decide)
              rw [hGB] at hgcell
              have hgl := gapS_len 0
              have HGB := Lib.hid (show GB.data.toList = gapS 0 ∧ (gapS 0).length = GB.size by rw [← hGB]; exact ⟨rfl, rfl⟩)
              have hGs : GB.size ≤ 10 := by rw [← HGB.out.2]; exact hgl.2
              clear hgl hGB hk2
              go_wp2_with (first | (go_at_call 9; refine (num_any _ _).mono ?_; rintro e9 w9 ⟨rfl, rfl⟩) | (go_at_call 7; go_must (refine (PL.out _ (by exact HS.out.fr.alloc _) (by exact toks_one (heap_alloc_new wr _))).mono ?_); rintro e1 w1 ⟨rfl, hf1, g1⟩; have HF1 := Lib.hid (And.intro hf1 (((Fr.refl No wr).alloc (.cells #[.int .i64 t.kind, .int .i64 t.place, .string ⟨t.text.toArray⟩, .int .u64 t.num] 35)).trans_same g1)); clear hf1 g1) | (at_builtin; go_must (refine wpList_append_int rfl _ _ rfl w.heap.size _ (placesOf 0 ps) rfl (by exact (HS.out.ow.kept HF1.out.2).kept (((Fr.refl No w1).alloc _).alloc _)) _ _ (o.size + GB.size) rfl (by exact new_cell_at' _ _ _ _ (by simp)) (by rw [placesOf_len, HPL.out]; omega) (by have := HF1.out.1.size; simp; omega) ?_); intro v2 w2 hown2 hf2; have HO2 := Lib.hid hown2; have HF2 := Lib.hid hf2; clear hown2 hf2; obtain ⟨va2, vc2, hv62, _⟩ := HO2.out.shape; subst hv62))
              go_roundg (gk - 1)
              case measure => omega
              case rel =>
                have hfin : Fr No w w2 := (HF1.out.1.alloc _).alloc _ |>.trans HF2.out (fun i hi h => by have h' : w.heap.size ≤ i := h; omega)
                refine ⟨k + 1, _, ps ++ [(0, t)], by go_num, rfl, by omega, by rw [ByteArray.size_append', ByteArray.size_append']; omega, Lib.hid ⟨?_, ?_, ?_, ?_, ?_, hfin⟩, by omega⟩
                · rw [laidOf_app, ← HS.out.tx]; simp [laidOf, HC.out.2.1, HGB.out]
                · rw [List.map_append, HS.out.tk, HTK.out]; rfl
                · intro x hx
                  rcases List.mem_append.1 hx with h | h
                  · exact HS.out.my x h
                  · have : x = (0, t) := by simpa using h
                    rw [this]; exact HC.out.1
                · intro x hx
                  rcases List.mem_append.1 hx with h | h
                  · exact HS.out.nm x h
                  · have : x = (0, t) := by simpa using h
                    rw [this]; exact HC.out.2.2.1
                · have e : placesOf 0 (ps ++ [(0, t)]) = placesOf 0 ps ++ [o.size + GB.size] := by
                    rw [placesOf_app, ← HS.out.tx]
                    simp [placesOf, HGB.out.2]
                  rw [e]
                  have h2 := HO2.out
                  rw [List.length_append] at h2
                  exact h2
        · have heb : ((e : Int) != 0) = true := by simp; omega
          clear hp hm hS he hSm hSt
          go_wp2_with (first | (go_at_call 9; refine (num_any _ _).mono ?_; rintro e9 w9 ⟨rfl, rfl⟩) | (go_at_call 7; go_must (refine (PL.out _ (by exact HS.out.fr.alloc _) (by exact toks_one (heap_alloc_new wr _))).mono ?_); rintro e1 w1 ⟨rfl, hf1, g1⟩; have HF1 := Lib.hid (And.intro hf1 (((Fr.refl No wr).alloc (.cells #[.int .i64 t.kind, .int .i64 t.place, .string ⟨t.text.toArray⟩, .int .u64 t.num] 35)).trans_same g1)); clear hf1 g1) | (go_at_call 10; refine (WK.out _ HF1.out.1).mono ?_; rintro e10 w10 ⟨rfl, hf10⟩))
          go_ret
          exact ⟨rfl, hf10⟩
      · have hlt2 : ¬ (k : Int) < (n : Int) := by omega
        have hkn : k = n := by omega
        have HPS : Hid (ps.map (·.2) = l) := Lib.hid (by rw [HS.out.tk, hkn, ← HV.out.2.2.2.1, List.take_of_length_le (Nat.le_refl _)])
        have hlen : (laidOf ps).length ≤ 1000000 := by
          rw [← HS.out.tx]
          have : o.data.toList.length = o.size := by simp
          omega
        obtain ⟨K, r1, r2, r3, r4⟩ := gaps_read ps HS.out.my HS.out.nm hlen
        have hKl : K.length = n := by
          have := same14_len _ _ r2
          rw [HPS.out, HV.out.2.2.2.1] at this
          simpa using this
        have hol : (laidOf ps).length = o.size := by rw [← HS.out.tx]; simp
        have ho2 : o.size ≤ 21000 := by omega
        have L1 := fun wx (hf : Fr No w wx) => lex_end o ps w wx HV.out.1 h8 ho2 hf HS.out.tx K n r1 hKl
        have L2 := fun wx (hf : Fr No w wx) => lex_rest o ps w wx HV.out.1 h8 ho2 hf HS.out.tx (o.size + 1) (by rw [← hol]; exact r4)
        have L1 := Lib.hid L1
        have L2 := Lib.hid L2
        have HK := Lib.hid (And.intro r2 (And.intro r3 hKl))
        have HS' := HS
        clear r1 r2 r3 r4 hlen hKl hol hkn
        have e8 : (⟨#[47, 42, 32, 42, 47, 32, 47, 47]⟩ : ByteArray).size = 8 := rfl
        have e2 : (⟨#[32, 35]⟩ : ByteArray).size = 2 := rfl
        go_wp2_with (go_at_call 9; refine (num_any _ _).mono ?_; rintro e9 w9 ⟨rfl, rfl⟩)
        refine (L1.out _ HS.out.fr).mono ?_
        rintro e1 w1 ⟨aK, cK, rfl, htK, hf1, g1⟩
        have HT := Lib.hid (And.intro htK (And.intro hf1 g1))
        clear htK hf1 g1
        go_wp2_with (go_at_call 9; refine (num_any _ _).mono ?_; rintro e9 w9 ⟨rfl, rfl⟩)
        refine (same_at aK a cK cp n n (K.map Tok.pt) l w w1 HT.out.2.1 HT.out.1 (HV.out.2.2.1.fr HT.out.2.1) (by rw [List.length_map, HK.out.2.2]) HV.out.2.2.2.1 (by omega) (by omega) true (by rw [← HPS.out]; exact HK.out.1)).mono ?_
        rintro e3 w3 ⟨rfl, hf3, g3⟩
        have HF3 := Lib.hid (And.intro hf3 g3)
        clear hf3 g3
        go_wp2_with (go_at_call 9; refine (num_any _ _).mono ?_; rintro e9 w9 ⟨rfl, rfl⟩)
        obtain ⟨q, hq⟩ : ∃ q, (placesOf 0 ps).length = q := ⟨_, rfl⟩
        have hqn : q = n := by
          have h1 := congrArg List.length HPS.out
          rw [List.length_map, HV.out.2.2.2.1] at h1
          rw [← hq, placesOf_len, h1]
        have HSH := Lib.hid (HS.out.ow.shape)
        go_loopg [14] n (fun g v wr2 => ∃ i : Nat, v = .int .i64 i ∧ i ≤ n ∧ Hid (Fr No w3 wr2) ∧ g + i = n)
        case atStart => exact ⟨0, rfl, by omega, Lib.hid (Fr.refl _ _), by omega⟩
        case round =>
          obtain ⟨i, rfl, hi, HF, hg2⟩ := hrel
          by_cases hlt3 : i < n
          · have hlt4 : (i : Int) < (n : Int) := by omega
            have hlt5 : (i : Int) < (((placesOf 0 ps).length : Nat) : Int) := by omega
            have hKi : i < (K.map Tok.pt).length := by rw [List.length_map, HK.out.2.2]; exact hlt3
            have hpi : i < (placesOf 0 ps).length := by omega
            obtain ⟨b1, o1, haK, hb1', z0, c1, z2, z3⟩ := ((HT.out.1.fr HF3.out.2).fr HF.out).cells4 i hKi
            obtain ⟨a', c', hsh, hcells⟩ := HSH.out
            have hva : va = a' := by injection hsh
            obtain ⟨g1, hg1, hgl1, hgc1⟩ := hcells i hpi
            rw [← hva] at hg1
            have hgc2 := (((HT.out.2.2.trans_same HF3.out.2).trans_same HF.out).cell (p := ⟨g1, i, none⟩) hgl1 id).trans hgc1
            have hpl : ((K.map Tok.pt)[i]).place = ((((placesOf 0 ps)[i]'hpi) : Nat) : Int) := by
              have h1 : (K.map (·.place))[i]'(by rw [HK.out.2.1]; exact hpi) = (placesOf 0 ps)[i]'hpi := by
                simp only [HK.out.2.1]
              rw [← h1]; simp [Tok.pt]
            rw [hpl] at c1
            generalize ((placesOf 0 ps)[i]'hpi) = P at c1 hgc2
            have hPP : ((P : Int) != (P : Int)) = false := by simp
            subst haK
            subst hg1
            clear z0 z2 z3 hgc1 hpl hcells hsh hKi hpi hva
            go_wp2_with (first | go_quiet (fail))
            go_roundg (gk - 1)
            case measure => omega
            case rel => exact ⟨i + 1, by go_num, by omega, Lib.hid (HF.out.drewN _), by omega⟩
          · have hlt4 : ¬ (i : Int) < (n : Int) := by omega
            have hfw : Fr No w wr := HF3.out.1.trans_same HF.out
            have HFW := Lib.hid hfw
            clear hfw
            go_wp2_with (go_at_call 9; refine (num_any _ _).mono ?_; rintro e9 w9 ⟨rfl, rfl⟩)
            refine (L2.out _ HFW.out).mono ?_
            rintro e5 w5 ⟨a5, c5, rfl, ht5, hf5, g5⟩
            have HF5 := Lib.hid hf5
            clear hf5 g5 ht5
            go_wp2_with (first | (go_at_call 9; refine (num_any _ _).mono ?_; rintro e9 w9 ⟨rfl, rfl⟩) | (go_at_call 10; refine (WK.out _ HF5.out).mono ?_; rintro e10 w10 ⟨rfl, hf10⟩))
            go_ret
            exact ⟨rfl, hf10⟩
end Go.Proofs.YtinodapgldbljaaDoor
