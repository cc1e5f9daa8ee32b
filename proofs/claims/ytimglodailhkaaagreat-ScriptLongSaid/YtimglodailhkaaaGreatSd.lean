/-
  script.Read walked: it answers read31 of the line.
-/
import Derived.Test.YtimglodailhkaaaGreatSr
import Derived.Test.YtimglodailhkaaaGreatCh
namespace Go.Proofs.YtimglodailhkaaaGreat
open Go Go.RowKit
abbrev zeroE : Obj := .cells #[.int .i64 0, .int .i64 0, .slice none 0 0, .slice none 0 0, .slice none 0 0] 28
theorem index_heads (b : Nat) (H : ByteArray) (w : World) (hb : w.heap[b]? = some headRow) :
    Calls Tryz.prog 23 #[.slice (some ⟨b, 0, none⟩) 6 6, .string H] w fun e w' => e = .returned (.int .i64 (Lib.idxOfS headsL H)) ∧ w = w' := by
  refine (Tryz.slices_Index_string b 0 6 6 headsL H w (by decide) (by decide) (fun j hj => ?_)).mono ?_
  · unfold World.cell?
    rw [hb]
    match j, hj with
    | 0, _ => rfl
    | 1, _ => rfl
    | 2, _ => rfl
    | 3, _ => rfl
    | 4, _ => rfl
    | 5, _ => rfl
  · rintro e w' ⟨h1, h2⟩
    exact ⟨h1, h2.symm⟩
/-- The world behind the variables, the cut and the heads. -/
structure Begun (w : World) (E : Nat) (W : World) : Prop where
  ev : W.heap[E]? = some zeroE
  no : W.heap[E + 1]? = some (.cells #[.int .i64 0] 29 (0, 0))
  fr : Fr No w W
  le : w.heap.size ≤ E
/-- What the words of a line ask of the library's variables. -/
def ReadAsks (T B : Prop) (s : Bytes) : Prop := ∀ h t, words31 s = h :: t → ∀ x ∈ t, Asks T (lread (kindOf h) t = none → B) x
set_option maxRecDepth 100000 in
set_option maxHeartbeats 8000000 in
theorem sread_way {TT BB : Prop} (w : World) (hv : Vars TT BB w) (m : Int) (hm : w.cell? ⟨0, 0, none⟩ = some (.int .i64 m)) (s : ByteArray) (hs : s.size ≤ 16777216) (hA : ReadAsks TT BB s.data.toList) (R : Ending → World → Prop) (HPOST : Hid (∀ e w', ReadPost w s.data.toList e w' → R e w')) :
    Calls Tryz.prog 7 #[.string s] w R := by
  have hmf : ∀ (fn : Fn) (first cap : Array Value) (w : World), (Instr.makeFunc fn first cap).run Tryz.prog w = .ok (.func fn first cap) w := fun _ _ _ _ => rfl
  have t0 : ¬ (16777216 : Int) < (s.size : Int) := by omega
  obtain ⟨h, t, hw, he, hph, hpt⟩ := words_split s.data.toList
  have HR := Lib.hid (read_words hw)
  have HAA := Lib.hid (hA h t hw)
  clear hA
  have hlen : h.length + (restOf t).length = s.size := by
    have : s.data.toList.length = s.size := by rw [Array.length_toList]; rfl
    rw [← this, he, List.length_append]
  obtain ⟨H, hH⟩ : ∃ H, H = strB h := ⟨_, rfl⟩
  obtain ⟨T, hT⟩ : ∃ T, T = strB (restOf t) := ⟨_, rfl⟩
  have hHs : H.size = h.length := by rw [hH, strB_size]
  have e2 : s.extract H.size s.size = T := by rw [hT, hHs]; exact cut_rear s h _ he
  have hle : (H.size : Int) ≤ (s.size : Int) := by omega
  obtain ⟨c, hc⟩ : ∃ c, c = Lib.cut s.data.toList (⟨#[32]⟩ : ByteArray).data.toList := ⟨_, rfl⟩
  have e3 : (⟨c.1.toArray⟩ : ByteArray) = H := by
    rw [hc, he, show (⟨#[32]⟩ : ByteArray).data.toList = [32] from rfl, cut_head h t hph, hH]; rfl
  have HC : Hid (∀ wx : World, wx.cell? ⟨0, 0, none⟩ = some (.int .i64 m) → Calls Tryz.prog 22 #[.string s, .string ⟨#[32]⟩] wx fun e w' => ∃ (u : ByteArray) (b : Bool) (n : Nat), e = .returned (.tuple #[.string H, .string u, .bool b]) ∧ wx.drewN n = w') := Lib.hid (fun wx hx => (Tryz.strings_Cut s ⟨#[32]⟩ m wx (by omega) hx).mono (fun e w' ⟨h1, n, h2⟩ => by
    rw [← hc, e3] at h1
    exact ⟨_, _, n, h1, h2.symm⟩))
  clear e3 hc c
  obtain ⟨I, hI⟩ : ∃ I, I = Lib.idxOfS headsL H := ⟨_, rfl⟩
  have HI : Hid (∀ (b : Nat) (wx : World), wx.heap[b]? = some headRow → Calls Tryz.prog 23 #[.slice (some ⟨b, 0, none⟩) 6 6, .string H] wx fun e w' => e = .returned (.int .i64 I) ∧ wx = w') := Lib.hid (fun b wx hx => by rw [hI]; exact index_heads b H wx hx)
  have hK := head_kind h
  have hlt : (restOf t).length ≤ 16777216 := by omega
  rw [← hH, ← hI] at hK
  have HX := Lib.hid (And.intro hv (And.intro hm (And.intro hpt (And.intro hH (And.intro hT (And.intro hlt hI))))))
  clear hw he hph hpt hH hT hlt hlen hI hHs hv hm hs
  go_enter_defers Tryz.func7, Tryz.ntmps7
  go_upto_region 4 with fail
  obtain ⟨W1, hW1⟩ : ∃ W1, W1 = (w.alloc zeroE).alloc (.cells #[.int .i64 0] 29) := ⟨_, rfl⟩
  rw [← hW1]
  have b1 : Begun w w.heap.size W1 := by
    rw [hW1]
    exact ⟨heap_alloc2_old w _ _, heap_alloc2_new w _ _, ((Fr.refl _ _).alloc _).alloc _, Nat.le_refl _⟩
  have hm1 : W1.cell? ⟨0, 0, none⟩ = some (.int .i64 m) := by
    have h0 : 0 < w.heap.size := by
      have := HX.out.2.1
      unfold World.cell? at this
      rcases Nat.eq_zero_or_pos w.heap.size with h | h
      · rw [Array.getElem?_eq_none (by omega)] at this; cases this
      · exact h
    rw [b1.fr.cell h0 (fun h => h)]; exact HX.out.2.1
  clear hW1
  go_upto_region 5 with (go_at_call 22; refine (HC.out _ hm1).mono ?_; rintro e w2 ⟨u, b, n, rfl, rfl⟩)
  have b2 : Begun w w.heap.size ((W1.drewN n).alloc headRow) := by
    have hf : Fr No W1 ((W1.drewN n).alloc headRow) := ((Fr.refl _ _).drewN n).alloc _
    exact ⟨hf.at b1.ev (fun h => h), hf.at b1.no (fun h => h), b1.fr.trans_same hf, b1.le⟩
  have hrow : ((W1.drewN n).alloc headRow).heap[W1.heap.size]? = some headRow := heap_alloc_new (W1.drewN n) headRow
  obtain ⟨⟨p0, p1, p2, p3, p4⟩, ⟨f0, f1, f2, f3, f4⟩⟩ := res_cells b2.ev
  have hEl := lt_of_block b2.ev
  have HB2 := Lib.hid b2
  have hrow := Lib.hid hrow
  clear b1 b2 hm1
  go_upto_region 6 with (first | (go_at_call 24; refine (heads_any _).mono ?_; rintro e w3 ⟨rfl, rfl⟩) | (go_at_call 23; refine (HI.out _ _ hrow.out).mono ?_; rintro e w3 ⟨rfl, rfl⟩))
  obtain ⟨W2, hW2⟩ : ∃ W2, W2 = ((W1.drewN n).alloc headRow).setCell ⟨w.heap.size, 0, none⟩ (.int .i64 I) := ⟨_, rfl⟩
  rw [← hW2]
  have hev : W2.heap[w.heap.size]? = some (.cells #[.int .i64 I, .int .i64 0, .slice none 0 0, .slice none 0 0, .slice none 0 0] 28 (0, 0)) := by rw [hW2]; exact heap_setCell_same _ w.heap.size 0 _ _ _ HB2.out.ev
  have hno : W2.heap[w.heap.size + 1]? = some (.cells #[.int .i64 0] 29 (0, 0)) := by rw [hW2]; exact (heap_setCell_other _ ⟨w.heap.size, 0, none⟩ (w.heap.size + 1) _ (by simp)).trans HB2.out.no
  have hfr : Fr No w W2 := by rw [hW2]; exact HB2.out.fr.setCell _ _ (fun hlt => absurd hlt (Nat.lt_irrefl _))
  clear hW2 p0 p1 p2 p3 p4 f0 f1 f2 f3 f4 hEl HB2 hrow
  have BAD : Hid (read31 s.data.toList = none → ∀ w4, Fr No w w4 → R (.returned (.tuple #[.agg #[.int .i64 0, .int .i64 0, .slice none 0 0, .slice none 0 0, .slice none 0 0], .int .i64 411])) w4) := Lib.hid (fun hn w4 hf => HPOST.out _ _ ⟨_, by rw [hn]; rfl, by rw [hn]; exact evAt_none _, hf⟩)
  have hEl := lt_of_block hev
  obtain ⟨⟨p0, p1, p2, p3, p4⟩, ⟨f0, f1, f2, f3, f4⟩⟩ := res_cells hev
  rcases hK with ⟨hIK, hk1, hk5⟩ | ⟨hk0, hI0⟩
  · have hkI : ¬ I ≤ 0 := by omega
    have HEv := Lib.hid (And.intro hev (And.intro hno hfr))
    clear hev hno hfr
    go_upto_region 9 with fail
    obtain ⟨r, hr⟩ : ∃ r, r = W2.heap.size := ⟨_, rfl⟩
    obtain ⟨W3, hW3⟩ : ∃ W3, W3 = W2.alloc (.cells #[.string T] TR) := ⟨_, rfl⟩
    rw [← hr, ← hW3]
    have hn3 : Fr No W2 W3 := by rw [hW3]; exact (Fr.refl _ _).alloc _
    have hev3 := hn3.at HEv.out.1 (fun h => h)
    have hno3 := hn3.at HEv.out.2.1 (fun h => h)
    have hfr3 := HEv.out.2.2.trans_same hn3
    have hrd3 : W3.heap[r]? = some (.cells #[.string (strB (restOf t))] TR (0, 0)) := by rw [hW3, hr, ← HX.out.2.2.2.2.1]; exact heap_alloc_new _ _
    have hnl := lt_of_block HEv.out.2.1
    have hwr : w.heap.size + 1 < r := by omega
    have hLN := rline_read w HX.out.1 w.heap.size r I t W3 hfr3.toBelow (by omega) (Nat.le_refl _) (by omega) hev3 hrd3 HX.out.2.2.1 (by rw [hIK]; exact HAA.out) HX.out.2.2.2.2.2.1 (by omega) (by omega)
    have HB := Lib.hid (lread_body I t (by omega) (by omega))
    have HE3 := Lib.hid (And.intro hno3 (And.intro hfr3 (And.intro hev3 hIK)))
    clear hW3 hr HEv hn3 hev3 hno3 hfr3 hrd3 hnl hk1 hk5 hIK p0 p1 p2 p3 p4 f0 f1 f2 f3 f4 hEl hkI e2 hle HC HI t0
    cases hL : lread I t with
    | none =>
      rw [hL] at hLN HB
      have HLN := Lib.hid hLN
      have HN : Hid (read31 s.data.toList = none) := Lib.hid (by rw [HR.out, ← HE3.out.2.2.2, HB.out])
      clear hLN hL
      go_wp2_with (go_at_call 25; refine HLN.out.mono ?_; rintro e w4 ⟨rfl, hf4, v0, v1, v2, v3, v4, he4⟩)
      refine leaves_cons (f := 21) (args := #[.pointer (some ⟨w.heap.size, 0, none⟩), .pointer (some ⟨w.heap.size + 1, 0, none⟩)]) (by simp) (by simp [go_sem]) ?_
      refine (catch_wrong w.heap.size (w.heap.size + 1) _ _ _ _ _ 0 _ he4 (hf4.at HE3.out.1 (by rintro (e | e) <;> omega)) (by omega)).mono ?_
      rintro e u' w5 ⟨rfl, rfl, d1, d2, d3⟩
      exact ⟨_, results_sread _ _ _ _ _ _ rfl rfl d1 rfl (cell_of_one d2), BAD.out HN.out _ ((HE3.out.2.1.trans hf4 (by rintro i hi (e | e) <;> omega)).trans d3 (by rintro i hi (e | e) <;> omega))⟩
    | some p =>
      obtain ⟨ev, l⟩ := p
      rw [hL] at hLN HB
      have HLN := Lib.hid hLN
      have HSM := Lib.hid (lread_small I t ev l HX.out.2.2.2.2.2.1 hL)
      clear hLN hL
      go_upto_region 10 with (go_at_call 25; refine HLN.out.mono ?_; rintro e w4 ⟨rfl, vb, vf, vp, hES⟩)
      obtain ⟨a1, c1, rfl, _⟩ := owns_cells hES.ob (by simp)
      obtain ⟨a2, c2, rfl, _⟩ := owns_cells hES.of (fateCs_len ev.fates)
      obtain ⟨a3, c3, rfl, _⟩ := owns_cells hES.op (by unfold intCs; simp)
      have c0 := cell_of_one hES.rd
      have hrl := lt_of_block hES.rd
      obtain ⟨S1, hS1⟩ : ∃ S1, S1 = strB (restOf l) := ⟨_, rfl⟩
      rw [← hS1] at c0
      obtain ⟨q1, q1'⟩ := str_eq S1 (restOf l) [] hS1
      have hno4 := hES.fr.at HE3.out.1 (by rintro (e | e) <;> omega)
      have hfr4 := HE3.out.2.1.trans hES.fr (by rintro i hi (e | e) <;> omega)
      have HES := Lib.hid (And.intro hES (And.intro hno4 hfr4))
      obtain ⟨⟨p0, p1, p2, p3, p4⟩, ⟨f0, f1, f2, f3, f4⟩⟩ := res_cells hES.ev
      have hEl := lt_of_block hES.ev
      clear hES hno4 hfr4 hS1
      cases l with
      | cons x l2 =>
        have t1 := q1.trans (decide_eq_false (by rw [restOf_cons]; simp))
        have t1' := q1'.trans (decide_eq_false (by rw [restOf_cons]; simp))
        have HN : Hid (read31 s.data.toList = none) := Lib.hid (by rw [HR.out, ← HE3.out.2.2.2, HB.out])
        clear q1 q1'
        go_wp2_with fail
        refine leaves_cons (f := 21) (args := #[.pointer (some ⟨w.heap.size, 0, none⟩), .pointer (some ⟨w.heap.size + 1, 0, none⟩)]) (by simp) (by simp [go_sem]) ?_
        refine (catch_wrong w.heap.size (w.heap.size + 1) _ _ _ _ _ 0 _ HES.out.1.ev HES.out.2.1 (by omega)).mono ?_
        rintro e u' w5 ⟨rfl, rfl, d1, d2, d3⟩
        exact ⟨_, results_sread _ _ _ _ _ _ rfl rfl d1 rfl (cell_of_one d2), BAD.out HN.out _ (HES.out.2.2.trans d3 (by rintro i hi (e | e) <;> omega))⟩
      | nil =>
        have t1 := q1.trans (decide_eq_true rfl)
        have t1' := q1'.trans (decide_eq_true rfl)
        have HRD : Hid (read31 s.data.toList = if may31 ev = true then some ev else none) := Lib.hid (by rw [HR.out, ← HE3.out.2.2.2, HB.out])
        clear q1 q1'
        have HCK := Lib.hid (check_any _ ev w4 HES.out.1.at HSM.out)
        by_cases hmay : may31 ev = true
        · rw [if_pos hmay] at HCK HRD
          have HN := HRD
          clear hmay
          go_upto_region 12 with (go_at_call 10; refine HCK.out.mono ?_; rintro e w5 ⟨rfl, hf5⟩)
          have he5 := hf5.at HES.out.1.ev (fun h => h)
          have hn5 := hf5.at HES.out.2.1 (fun h => h)
          obtain ⟨⟨l0, l1, l2, l3, l4⟩, ⟨m0, m1, m2, m3, m4⟩⟩ := res_cells he5
          have n1 := cell_of_one hn5
          have n2 := free_of_one hn5
          have hl5 := lt_of_block hn5
          have hl6 := lt_of_block he5
          obtain ⟨z1, z2, z3, z4⟩ := sread_fin (HES.out.2.2.trans_same hf5) (Nat.le_refl _) he5 hn5 (.int .i64 ev.kind) (.int .i64 ev.conn) (.slice a1 ev.bytes.length c1) (.slice a2 ev.fates.length c2) (.slice a3 ev.picks.length c3)
          have HZ := Lib.hid (And.intro z1 (And.intro z2 (And.intro z3 z4)))
          have HF5 := Lib.hid hf5
          clear z1 z2 z3 z4 he5 hn5 hf5 p0 p1 p2 p3 p4 f0 f1 f2 f3 f4
          go_wp2_with fail
          refine leaves_cons (f := 21) (args := #[.pointer (some ⟨w.heap.size, 0, none⟩), .pointer (some ⟨w.heap.size + 1, 0, none⟩)]) (by simp) (by simp [go_sem]) ?_
          refine (catch_idle _ _ _).mono ?_
          rintro e u' w6 ⟨rfl, rfl, rfl⟩
          refine ⟨_, results_sread _ _ _ _ _ _ rfl rfl HZ.out.1 rfl HZ.out.2.1, HPOST.out _ _ ⟨_, by rw [HN.out]; rfl, ?_, HZ.out.2.2.1⟩⟩
          rw [HN.out]
          exact HES.out.1.atK ((Kt.ofFr HF5.out).trans (HZ.out.2.2.2 _ (by decide) (by decide))) ((Kt.ofFr HF5.out).trans (HZ.out.2.2.2 _ (by decide) (by decide))) ((Kt.ofFr HF5.out).trans (HZ.out.2.2.2 _ (by decide) (by decide)))
        · rw [if_neg hmay] at HCK HRD
          have HN := HRD
          clear hmay
          go_wp2_with (go_at_call 10; refine HCK.out.mono ?_; rintro e w5 ⟨rfl, hf5⟩)
          refine leaves_cons (f := 21) (args := #[.pointer (some ⟨w.heap.size, 0, none⟩), .pointer (some ⟨w.heap.size + 1, 0, none⟩)]) (by simp) (by simp [go_sem]) ?_
          refine (catch_wrong w.heap.size (w.heap.size + 1) _ _ _ _ _ 0 _ (hf5.at HES.out.1.ev (fun h => h)) (hf5.at HES.out.2.1 (fun h => h)) (by omega)).mono ?_
          rintro e u' w5 ⟨rfl, rfl, d1, d2, d3⟩
          exact ⟨_, results_sread _ _ _ _ _ _ rfl rfl d1 rfl (cell_of_one d2), BAD.out HN.out _ ((HES.out.2.2.trans_same hf5).trans d3 (by rintro i hi (e | e) <;> omega))⟩
  · have HN : Hid (read31 s.data.toList = none) := Lib.hid (by rw [HR.out, hk0]; rfl)
    have HE := Lib.hid (And.intro hev (And.intro hno hfr))
    clear hev hno hfr
    go_wp2_with fail
    refine leaves_cons (f := 21) (args := #[.pointer (some ⟨w.heap.size, 0, none⟩), .pointer (some ⟨w.heap.size + 1, 0, none⟩)]) (by simp) (by simp [go_sem]) ?_
    refine (catch_wrong w.heap.size (w.heap.size + 1) _ _ _ _ _ 0 _ HE.out.1 HE.out.2.1 (by omega)).mono ?_
    rintro e u' w5 ⟨rfl, rfl, d1, d2, d3⟩
    exact ⟨_, results_sread _ _ _ _ _ _ rfl rfl d1 rfl (cell_of_one d2), BAD.out HN.out _ (HE.out.2.2.trans d3 (by rintro i hi (e | e) <;> omega))⟩
theorem sread_any {TT BB : Prop} (w : World) (hv : Vars TT BB w) (m : Int) (hm : w.cell? ⟨0, 0, none⟩ = some (.int .i64 m)) (s : ByteArray) (hs : s.size ≤ 16777216) (hA : ReadAsks TT BB s.data.toList) :
    Calls Tryz.prog 7 #[.string s] w (ReadPost w s.data.toList) := sread_way w hv m hm s hs hA _ (Lib.hid (fun _ _ h => h))
end Go.Proofs.YtimglodailhkaaaGreat
