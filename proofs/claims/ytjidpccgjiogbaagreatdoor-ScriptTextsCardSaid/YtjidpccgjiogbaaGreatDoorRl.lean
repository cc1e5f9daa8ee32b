/-
  The document's Line walked.
-/
import Derived.Test.YtjidpccgjiogbaaGreatDoorIt
import Derived.Lib.ItoaLen
import Derived.Deep.RegionHeld3
namespace Go.Proofs.YtjidpccgjiogbaaGreatDoor
open Go Go.RowKit
def i64 (n : Int) : Prop := -9223372036854775808 ≤ n ∧ n ≤ 9223372036854775807
/-- Its numbers are a computer's. -/
structure Ev.nums (e : Ev) : Prop where
  conn : i64 e.conn
  fates : ∀ f ∈ e.fates, i64 f.2
  picks : ∀ n ∈ e.picks, i64 n
theorem str_app (x : Bytes) (y : Bytes) : (⟨x.toArray⟩ : ByteArray) ++ ⟨y.toArray⟩ = ⟨(x ++ y).toArray⟩ := ByteArray.mk_append_mk x y
theorem size_mk (x : Bytes) : (⟨x.toArray⟩ : ByteArray).size = x.length := by simp [ByteArray.size]
theorem take_flat {α : Type} (f : α → Bytes) (l : List α) (i : Nat) (h : i < l.length) : (l.take (i + 1)).flatMap f = (l.take i).flatMap f ++ f l[i] := by
  rw [List.take_succ_eq_append_getElem h, List.flatMap_append]; simp
theorem itoa_small (n : Int) (h : i64 n) : (Lib.itoa n).length ≤ 21 := Lib.itoa_length_le n h.1 h.2
theorem ret_str {a b : ByteArray} (h : a = b) : Ending.returned (.string a) = .returned (.string b) := by rw [h]
set_option maxRecDepth 100000 in
set_option maxHeartbeats 8000000 in
theorem rline_any (v : Value) (e : Ev) (w : World) (hv : EvAt w v e) (hm : may31 e = true) (hnum : e.nums) (ht : Tab w) :
    Calls Tryz.prog 18 #[v] w fun en w' => en = .returned (.string ⟨(line31 e).toArray⟩) ∧ Fr No w w' := by
  obtain ⟨a1, c1, a2, c2, a3, c3, rfl, x1, x2, x3⟩ := hv.form
  clear hv
  have hb1 : ¬ Bad1 e.kind e.bytes.length e.fates.length e.picks.length := fun h => by rw [may31_bad (.inl h)] at hm; cases hm
  clear hm
  obtain ⟨k, cn, bs, fs, ps⟩ := e
  obtain ⟨q1, q2, q3⟩ := hnum
  simp only at x1 x2 x3 hb1 q1 q2 q3 ⊢
  obtain ⟨n1, hn1⟩ : ∃ n1, bs.length = n1 := ⟨_, rfl⟩
  obtain ⟨n2, hn2⟩ : ∃ n2, fs.length = n2 := ⟨_, rfl⟩
  obtain ⟨n3, hn3⟩ : ∃ n3, ps.length = n3 := ⟨_, rfl⟩
  rw [hn1] at hb1 ⊢
  rw [hn2] at hb1 ⊢
  rw [hn3] at hb1 ⊢
  have hk : k = 1 ∨ k = 2 ∨ k = 3 ∨ k = 4 ∨ k = 5 := by unfold Bad1 at hb1; omega
  have he : n1 ≤ 1048576 ∧ n2 ≤ 65536 ∧ n3 ≤ 65536 := by unfold Bad1 at hb1; omega
  obtain ⟨he1, he2, he3⟩ := he
  clear hb1
  obtain ⟨S, hS⟩ : ∃ S, S = line31 ⟨k, cn, bs, fs, ps⟩ := ⟨_, rfl⟩
  rw [← hS]
  have HS := Lib.hid hS
  have HT := Lib.hid ht
  have HQ := Lib.hid (And.intro q1 (And.intro q2 q3))
  have HX := Lib.hid (And.intro (And.intro x1 (And.intro x2 x3)) (And.intro hn1 (And.intro hn2 hn3)))
  clear x1 x2 x3 hn1 hn2 hn3 q1 q2 q3 ht hS
  rcases hk with rfl | rfl | rfl | rfl | rfl
  · go_enter Tryz.func18, Tryz.ntmps18
    go_wp2_with fail
    go_ret
    exact ⟨ret_str (by rw [HS.out]; rfl), (Fr.refl _ _).alloc _⟩
  · have HI := Lib.hid (fun wx hf => itoa_any cn wx HQ.out.1.1 HQ.out.1.2 (Fr.tab (w := w) hf HT.out))
    have HH := Lib.hid (fun wx (hf : Fr No w wx) => rhex_any a1 c1 n1 bs wx HX.out.2.1 (HX.out.1.1.no hf) (by omega))
    obtain ⟨T1, hT1⟩ : ∃ T1 : ByteArray, T1 = ⟨(Lib.itoa cn).toArray⟩ := ⟨_, rfl⟩
    obtain ⟨T2, hT2⟩ : ∃ T2 : ByteArray, T2 = ⟨(hex31 bs).toArray⟩ := ⟨_, rfl⟩
    have z1 : T1.size ≤ 21 := by rw [hT1, size_mk]; exact itoa_small cn HQ.out.1
    have z2 : T2.size ≤ 2097152 := by
      rw [hT2, size_mk]; unfold hex31
      split
      · show 1 ≤ _; omega
      · rw [hex_len, HX.out.2.1]; omega
    rw [← hT1] at HI
    rw [← hT2] at HH
    have HTT := Lib.hid (And.intro hT1 hT2)
    clear hT1 hT2
    obtain ⟨W0, hW0⟩ : ∃ W0, W0 = w.alloc (.cells #[.int .i64 2, .int .i64 cn, .slice a1 n1 c1, .slice a2 n2 c2, .slice a3 n3 c3] 27) := ⟨_, rfl⟩
    have hf0 : Fr No w W0 := by rw [hW0]; exact (Fr.refl _ _).alloc _
    have hB0 := (show W0.heap[w.heap.size]? = some _ by rw [hW0]; exact heap_alloc_new w _)
    obtain ⟨⟨p0, p1, p2, p3, p4⟩, pl⟩ := cells5 hB0
    have HF := Lib.hid (And.intro hf0.drew (show W0.drew.heap[w.heap.size]? = some _ by rw [heap_drew]; exact hB0))
    clear hf0 hB0 p0 p3 p4
    go_enter Tryz.func18, Tryz.ntmps18
    go_upto_region 5 with fail
    rw [← hW0]
    clear hW0
    go_region_with (first | (go_at_call 45; refine (HI.out _ (by exact HF.out.1)).mono ?_; rintro e1 w1 ⟨rfl, hf1⟩; have hb1 := hf1.at HF.out.2 (fun h => h); obtain ⟨⟨_, _, P2, _, _⟩, Pl⟩ := cells5 hb1; clear hb1) | (go_at_call 46; refine (HH.out _ (by exact HF.out.1.trans_same hf1)).mono ?_; rintro e2 w2 ⟨rfl, hf2⟩))
    all_goals
      go_wp2_with fail
      go_ret
      exact ⟨ret_str (by rw [HTT.out.1, HTT.out.2, HS.out]; rw [show (⟨#[115, 101, 110, 100, 32]⟩ : ByteArray) = ⟨[115, 101, 110, 100, 32].toArray⟩ from rfl, show (⟨#[32]⟩ : ByteArray) = ⟨[32].toArray⟩ from rfl, str_app, str_app, str_app]; simp [line31, sendB]), (HF.out.1.trans_same hf1).trans_same hf2⟩
  · have HI := Lib.hid (fun wx hf => itoa_any cn wx HQ.out.1.1 HQ.out.1.2 (Fr.tab (w := w) hf HT.out))
    obtain ⟨T1, hT1⟩ : ∃ T1 : ByteArray, T1 = ⟨(Lib.itoa cn).toArray⟩ := ⟨_, rfl⟩
    have z1 : T1.size ≤ 21 := by rw [hT1, size_mk]; exact itoa_small cn HQ.out.1
    rw [← hT1] at HI
    have HTT := Lib.hid hT1
    clear hT1
    go_enter Tryz.func18, Tryz.ntmps18
    go_wp2_with fail
    refine (HI.out _ (by exact (Fr.refl _ _).alloc _)).mono ?_
    rintro e1 w1 ⟨rfl, hf1⟩
    go_wp2_with fail
    go_ret
    exact ⟨ret_str (by rw [HTT.out, HS.out]; exact str_app [99, 108, 111, 115, 101, 32] _), ((Fr.refl _ _).alloc _).trans_same hf1⟩
  · obtain ⟨W0, hW0⟩ : ∃ W0, W0 = w.alloc (.cells #[.int .i64 4, .int .i64 cn, .slice a1 n1 c1, .slice a2 n2 c2, .slice a3 n3 c3] 27) := ⟨_, rfl⟩
    have hf0 : Fr No w W0 := by rw [hW0]; exact (Fr.refl _ _).alloc _
    have hB0 := (show W0.heap[w.heap.size]? = some _ by rw [hW0]; exact heap_alloc_new w _)
    have HF0 := Lib.hid (And.intro hf0 hB0)
    clear hf0 hB0
    go_enter Tryz.func18, Tryz.ntmps18
    go_wp2_with fail
    rw [← hW0]
    clear hW0
    go_loopg [3, 4] n2 (fun g vo vi wr => ∃ (i : Nat) (o : ByteArray), vo = .string o ∧ vi = .int .i64 i ∧ i ≤ n2 ∧ o.size ≤ 4 + 27 * i ∧ Hid (o = ⟨(feedB ++ (fs.take i).flatMap fate31).toArray⟩) ∧ Hid (Fr No W0 wr) ∧ g + i = n2)
    case atStart => exact ⟨0, _, rfl, rfl, by omega, by decide, Lib.hid rfl, Lib.hid (Fr.refl _ _), by omega⟩
    case round =>
      obtain ⟨i, o, rfl, rfl, hi, ho, HO, HF, hg⟩ := hrel
      have HG := Lib.hid hg
      clear hg
      have hb := HF.out.at HF0.out.2 (fun h => h)
      obtain ⟨⟨_, _, _, p3, _⟩, pl⟩ := cells5 hb
      clear hb
      by_cases hlt : i < n2
      · have hlti : (i : Int) < (n2 : Int) := by omega
        have l1 : i < fs.length := by rw [HX.out.2.2.1]; exact hlt
        obtain ⟨g1, o1, rfl, gl1, s1, s2⟩ := (HX.out.1.2.1.no (HF0.out.1.trans_same HF.out)).fate i l1
        have htk := take_flat fate31 fs i l1
        have hq := HQ.out.2.1 fs[i] (List.getElem_mem l1)
        obtain ⟨⟨y1, y2⟩, hy⟩ : ∃ y, fs[i] = y := ⟨_, rfl⟩
        rw [hy] at s1 s2 htk hq
        simp only at s1 s2 hq
        have HTK := Lib.hid (And.intro htk hq)
        clear htk hy hq
        cases w1 : y1 == 0
        · have v2 : ¬ y1 = 0 := by simpa using w1
          have HI := Lib.hid (fun wx (hf : Fr No w wx) => itoa_any y2 wx HTK.out.2.1 HTK.out.2.2 (hf.tab HT.out))
          obtain ⟨T1, hT1⟩ : ∃ T1 : ByteArray, T1 = ⟨(Lib.itoa y2).toArray⟩ := ⟨_, rfl⟩
          have z1 : T1.size ≤ 21 := by rw [hT1, size_mk]; exact itoa_small y2 HTK.out.2
          rw [← hT1] at HI
          have HO2 : Hid (o ++ ⟨#[32, 102, 97, 105, 108, 32]⟩ ++ T1 = ⟨(feedB ++ (fs.take (i + 1)).flatMap fate31).toArray⟩) := Lib.hid (by
            rw [HO.out, hT1, show (⟨#[32, 102, 97, 105, 108, 32]⟩ : ByteArray) = ⟨failB.toArray⟩ from rfl, str_app, str_app, HTK.out.1]
            unfold fate31
            simp [v2])
          clear hT1
          have z6 : (⟨#[32, 102, 97, 105, 108, 32]⟩ : ByteArray).size = 6 := rfl
          go_wp2_with (go_at_call 45; refine (HI.out _ (by exact HF0.out.1.trans_same HF.out)).mono ?_; rintro e1 w1 ⟨rfl, hf1⟩)
          go_roundg (gk - 1)
          case measure => have := HG.out; omega
          case rel => exact ⟨i + 1, _, rfl, by go_num, by omega, by rw [ByteArray.size_append', ByteArray.size_append', z6]; omega, HO2, Lib.hid (HF.out.trans_same hf1), by have := HG.out; omega⟩
        · have v2 : y1 = 0 := by simpa using w1
          subst v2
          have HO2 : Hid (o ++ ⟨#[32, 103, 111, 111, 100]⟩ = ⟨(feedB ++ (fs.take (i + 1)).flatMap fate31).toArray⟩) := Lib.hid (by
            rw [HO.out, show (⟨#[32, 103, 111, 111, 100]⟩ : ByteArray) = ⟨goodB.toArray⟩ from rfl, str_app, HTK.out.1]
            unfold fate31
            simp)
          have z6 : (⟨#[32, 103, 111, 111, 100]⟩ : ByteArray).size = 5 := rfl
          go_wp2_with fail
          go_roundg (gk - 1)
          case measure => have := HG.out; omega
          case rel => exact ⟨i + 1, _, rfl, by go_num, by omega, by rw [ByteArray.size_append', z6]; omega, HO2, HF, by have := HG.out; omega⟩
      · have hlti : ¬ (i : Int) < (n2 : Int) := by omega
        have HE : Hid (o = ⟨S.toArray⟩) := Lib.hid (by
          rw [HO.out, HS.out, List.take_of_length_le (by rw [HX.out.2.2.1]; omega)]; rfl)
        go_wp2_with fail
        go_ret
        exact ⟨ret_str HE.out, HF0.out.1.trans_same HF.out⟩
  · obtain ⟨W0, hW0⟩ : ∃ W0, W0 = w.alloc (.cells #[.int .i64 5, .int .i64 cn, .slice a1 n1 c1, .slice a2 n2 c2, .slice a3 n3 c3] 27) := ⟨_, rfl⟩
    have hf0 : Fr No w W0 := by rw [hW0]; exact (Fr.refl _ _).alloc _
    have hB0 := (show W0.heap[w.heap.size]? = some _ by rw [hW0]; exact heap_alloc_new w _)
    have HF0 := Lib.hid (And.intro hf0 hB0)
    clear hf0 hB0
    go_enter Tryz.func18, Tryz.ntmps18
    go_wp2_with fail
    rw [← hW0]
    clear hW0
    go_loopg [5, 6] n3 (fun g vo vi wr => ∃ (i : Nat) (o : ByteArray), vo = .string o ∧ vi = .int .i64 i ∧ i ≤ n3 ∧ o.size ≤ 5 + 22 * i ∧ Hid (o = ⟨(crashB ++ (ps.take i).flatMap pick31).toArray⟩) ∧ Hid (Fr No W0 wr) ∧ g + i = n3)
    case atStart => exact ⟨0, _, rfl, rfl, by omega, by decide, Lib.hid rfl, Lib.hid (Fr.refl _ _), by omega⟩
    case round =>
      obtain ⟨i, o, rfl, rfl, hi, ho, HO, HF, hg⟩ := hrel
      have HG := Lib.hid hg
      clear hg
      have hb := HF.out.at HF0.out.2 (fun h => h)
      obtain ⟨⟨_, _, _, _, p4⟩, pl⟩ := cells5 hb
      clear hb
      by_cases hlt : i < n3
      · have hlti : (i : Int) < (n3 : Int) := by omega
        have l1 : i < ps.length := by rw [HX.out.2.2.2]; exact hlt
        obtain ⟨g1, o1, rfl, gl1, s1⟩ := (HX.out.1.2.2.no (HF0.out.1.trans_same HF.out)).int i l1
        have htk := take_flat pick31 ps i l1
        have hq := HQ.out.2.2 ps[i] (List.getElem_mem l1)
        obtain ⟨y2, hy⟩ : ∃ y, ps[i] = y := ⟨_, rfl⟩
        rw [hy] at s1 htk hq
        have HTK := Lib.hid (And.intro htk hq)
        clear htk hy hq
        have HI := Lib.hid (fun wx (hf : Fr No w wx) => itoa_any y2 wx HTK.out.2.1 HTK.out.2.2 (hf.tab HT.out))
        obtain ⟨T1, hT1⟩ : ∃ T1 : ByteArray, T1 = ⟨(Lib.itoa y2).toArray⟩ := ⟨_, rfl⟩
        have z1 : T1.size ≤ 21 := by rw [hT1, size_mk]; exact itoa_small y2 HTK.out.2
        rw [← hT1] at HI
        have HO2 : Hid (o ++ ⟨#[32]⟩ ++ T1 = ⟨(crashB ++ (ps.take (i + 1)).flatMap pick31).toArray⟩) := Lib.hid (by
          rw [HO.out, hT1, show (⟨#[32]⟩ : ByteArray) = ⟨[32].toArray⟩ from rfl, str_app, str_app, HTK.out.1]
          unfold pick31
          simp)
        clear hT1
        have z6 : (⟨#[32]⟩ : ByteArray).size = 1 := rfl
        go_wp2_with (go_at_call 45; refine (HI.out _ (by exact HF0.out.1.trans_same HF.out)).mono ?_; rintro e1 w1 ⟨rfl, hf1⟩)
        go_roundg (gk - 1)
        case measure => have := HG.out; omega
        case rel => exact ⟨i + 1, _, rfl, by go_num, by omega, by rw [ByteArray.size_append', ByteArray.size_append', z6]; omega, HO2, Lib.hid (HF.out.trans_same hf1), by have := HG.out; omega⟩
      · have hlti : ¬ (i : Int) < (n3 : Int) := by omega
        have HE : Hid (o = ⟨S.toArray⟩) := Lib.hid (by
          rw [HO.out, HS.out, List.take_of_length_le (by rw [HX.out.2.2.2]; omega)]; rfl)
        go_wp2_with fail
        go_ret
        exact ⟨ret_str HE.out, HF0.out.1.trans_same HF.out⟩
end Go.Proofs.YtjidpccgjiogbaaGreatDoor
