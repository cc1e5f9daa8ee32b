/-
  protolex.Quote walked.
-/
import Derived.Test.YtbdheihjnkfpiaaGreatDoorWh
import Derived.Test.YtbdheihjnkfpiaaGreatDoorQk
import Derived.Deep.AppendLies
import Derived.Lib.ConvBytes
namespace Go.Proofs.YtbdheihjnkfpiaaGreatDoor
open Go Go.RowKit
/-- 'append(out, ..)' of some bytes to a slice of bytes that the call has made: where it lies. -/
theorem wpList_append_bs {w : World} {ops : Array Oper} {rest : List Oper} {o : Oper} {a : Act} {Q : Exit → Act → World → Prop} (hgd : o.guard = none) (s x : Operand)
    (ho : o.op = .call { callee := .builtin .append, args := #[s, x], argTypes := #[56, 56] })
    (base : Nat) (v : Value) (bs : Bytes) (n : Nat) (hn : bs.length = n) (hs : a.eval s = v) (hown : OwnsB w base v bs) (g c : Nat) (ys : Bytes) (m : Nat) (hm : ys.length = m) (hx : a.eval x = .slice (some ⟨g, 0, none⟩) m c)
    (hcell : w.heap[g]? = some (.cells (ys.map byteV).toArray 5 (0, 0))) (hm0 : 0 < m)
    (hlen : n + m ≤ 140737488355328) (hbase : base ≤ w.heap.size) (H : Nat) (hH : w.heap.size = H)
    (h : ∀ g' cap w', OwnsB w' base (.slice (some ⟨g', 0, none⟩) (n + m) cap) (bs ++ ys) → w.grownBy w' v.ownBlock → (v.ownBlock = some g' ∨ g' = H) → g' < w'.heap.size → wpList Tryz.prog ops Q rest (a.put o.dst (.slice (some ⟨g', 0, none⟩) (n + m) cap)) w') : wpList Tryz.prog ops Q (o :: rest) a w := by
  subst hn
  obtain ⟨i0, hi, hz0, hz1, hz2⟩ := info_parts infoU8
  refine wpList_append_lies (P := Tryz.prog) w hgd s x 56 ho base 5 i0 (.int .u8 0) 1 1 Tryz.underlying56 hi hz0 hz1 hz2 rfl (by decide) v bs.length (bs.map byteV) hs hown ⟨g, 0, none⟩ m c (ys.map byteV) hx (by simp [hm]) ?_ ?_ hm0 ?_ ?_ hbase H hH ?_
  · intro j u hu
    have hadd : (⟨g, 0, none⟩ : Addr).add j = ⟨g, j, none⟩ := by unfold Addr.add; split <;> simp_all
    rw [hadd, cell_of_row w g j _ _ (0, 0) hcell]
    simpa using hu
  · intro u hu
    obtain ⟨b, _, rfl⟩ := List.mem_map.1 hu
    rfl
  · unfold maxLen; omega
  · omega
  · intro g' cap w' h1 h2 h3 h4
    refine h g' cap w' ?_ h2 h3 h4
    unfold OwnsB
    rw [List.length_append, hm]
    simpa using h1
theorem bytes_of (w : World) (s : ByteArray) : ∃ cap W, (convert 9 56 (.string s)).run Tryz.prog w = .ok (.slice (some ⟨w.heap.size, 0, none⟩) s.size cap) W ∧ (∃ o, W.heap[w.heap.size]? = some o ∧ ∀ (wx : World), wx.heap[w.heap.size]? = some o → ∀ j (hj : j < s.size), wx.cell? ⟨w.heap.size, j, none⟩ = some (.int .u8 (s[j]'hj).toNat)) ∧ Fr No w W ∧ W.heap.size = w.heap.size + 1 := by
  refine ⟨_, _, Lib.run_convert_string_bytes (P := Tryz.prog) w 9 56 5 s Tryz.underlying9 Tryz.underlying56 Tryz.underlying5, ⟨_, Lib.bytesWorld_at_new w 5 s, ?_⟩, ?_, Lib.bytesWorld_size _ _ _⟩
  · intro wx hwx j hj
    have h := Lib.bytesWorld_cell w 5 s j hj
    unfold World.cell? at h ⊢
    rw [Lib.bytesWorld_at_new] at h
    rw [hwx, h]
    congr 3
    rw [List.getD_eq_getElem?_getD, List.getElem?_eq_getElem (by simpa using hj)]
    rfl
  · refine ⟨?_, ?_, ?_, by rw [Lib.bytesWorld_size]; omega, fun k hk _ => Lib.bytesWorld_at_old w 5 s k hk⟩
    all_goals
      unfold Lib.bytesWorld World.freeze
      split <;> rfl
/-- IndexByte among the bytes that have a sign of their own. -/
def qIdx (c : UInt8) : Int := Lib.indexByte [10, 13, 9, 34, 92] c
theorem at_alloc' {w : World} {b : Nat} {o : Obj} (h : w.heap[b]? = some o) (o' : Obj) : (w.alloc o').heap[b]? = some o := (Below.heap_alloc w o' b (lt_of_block h)).trans h
theorem oct_cells (c : UInt8) : ([92, UInt8.ofNat (48 + c.toNat / 64), UInt8.ofNat (48 + c.toNat / 8 % 8), UInt8.ofNat (48 + c.toNat % 8)].map byteV).toArray = #[.int .u8 92, .int .u8 (48 + (c.toNat : Int) / 64), .int .u8 (48 + (c.toNat : Int) / 8 % 8), .int .u8 (48 + (c.toNat : Int) % 8)] := by
  have hc := c.toNat_lt
  have e1 : ((UInt8.ofNat (48 + c.toNat / 64)).toNat : Int) = 48 + (c.toNat : Int) / 64 := by rw [UInt8.toNat_ofNat']; omega
  have e2 : ((UInt8.ofNat (48 + c.toNat / 8 % 8)).toNat : Int) = 48 + (c.toNat : Int) / 8 % 8 := by rw [UInt8.toNat_ofNat']; omega
  have e3 : ((UInt8.ofNat (48 + c.toNat % 8)).toNat : Int) = 48 + (c.toNat : Int) % 8 := by rw [UInt8.toNat_ofNat']; omega
  rw [← e1, ← e2, ← e3]; rfl
theorem q_next {w wr w3 : World} {o ob : Obj} {bk g' : Nat} (hgrow : (wr.alloc o).grownBy w3 (some bk)) (hB : wr.heap[w.heap.size + 1]? = some ob) (hbk : bk ≠ w.heap.size + 1) (hfr : Fr No w wr) (hb : w.heap.size ≤ bk)
    (hat : some bk = some g' ∨ g' = wr.heap.size + 1) (hsz : w.heap.size + 2 ≤ wr.heap.size) :
    w3.heap[w.heap.size + 1]? = some ob ∧ Fr No w w3 ∧ g' ≠ w.heap.size + 1 ∧ w.heap.size + 2 ≤ w3.heap.size := by
  refine ⟨?_, ?_, ?_, ?_⟩
  · rw [hgrow.block (w.heap.size + 1) (by simp; omega) (fun e => hbk (Option.some.inj e).symm)]
    exact at_alloc' hB o
  · exact (hfr.alloc o).grown hgrow (fun k hk hlt => by cases hk; omega)
  · rcases hat with e | e
    · cases e; exact hbk
    · omega
  · have := hgrow.size; simp at this; omega
theorem qIdx_none {c : UInt8} (h1 : c ≠ 10) (h2 : c ≠ 13) (h3 : c ≠ 9) (h4 : c ≠ 34) (h5 : c ≠ 92) : qIdx c = -1 := by
  have h : ¬ 0 ≤ qIdx c := by unfold qIdx; rw [indexByte_mem]; simp [h1, h2, h3, h4, h5]
  have := Lib.indexByte_ge [10, 13, 9, 34, 92] c
  unfold qIdx at h ⊢; omega
theorem qIdx_call (c : UInt8) (w : World) : Calls Tryz.prog 39 #[.string { data := #[10, 13, 9, 34, 92] }, .int .u8 c.toNat] w fun e w' => e = .returned (.int .i64 (qIdx c)) ∧ w = w' :=
  (Tryz.strings_IndexByte _ _ w).mono fun _ _ ⟨he, hw⟩ => ⟨by rw [he]; unfold qIdx; simp, hw.symm⟩
set_option maxRecDepth 100000 in
set_option maxHeartbeats 4000000 in
theorem quote_any (s : ByteArray) (w : World) (hs : s.size ≤ 1000000000) :
    Calls Tryz.prog 17 #[.string s] w fun e w' => e = .returned (.string ⟨(quote s.data.toList).toArray⟩) ∧ Fr No w w' := by
  obtain ⟨cap, W2, hcv, ⟨ob, hob, hrd⟩, hf2, hs2⟩ := bytes_of (w.alloc (.cells #[.int .u8 34] 5)) s
  have hn : (w.alloc (.cells #[.int .u8 34] 5)).heap.size = w.heap.size + 1 := by simp
  rw [hn] at hcv hob hrd hs2
  have hA0 := heap_alloc_new w (.cells #[.int .u8 34] 5)
  have HW := Lib.hid (And.intro hob (And.intro hf2 (And.intro hs2 hA0)))
  have HRD := Lib.hid hrd
  clear hob hrd hf2 hs2 hA0 hn
  go_enter Tryz.func17, Tryz.ntmps17
  go_wp2_with fail
  go_loopg [3, 5, 6, 11] s.size (fun g v3 _ _ v11 wr => ∃ (k : Nat) (acc : Bytes) (bk cp n : Nat), v3 = .slice (some ⟨bk, 0, none⟩) n cp ∧ v11 = .int .i64 k ∧ k ≤ s.size ∧ acc.length = n ∧ n ≤ 4 * k + 1 ∧ bk ≠ w.heap.size + 1 ∧ bk < wr.heap.size ∧ w.heap.size + 2 ≤ wr.heap.size ∧ Hid (acc = 34 :: (s.data.toList.take k).flatMap quoteByte ∧ OwnsB wr w.heap.size (.slice (some ⟨bk, 0, none⟩) n cp) acc ∧ wr.heap[w.heap.size + 1]? = some ob ∧ Fr No w wr) ∧ g + k = s.size)
  case atStart =>
    obtain ⟨h1, h2, h3, h4⟩ := HW.out
    have h5 : W2.heap[w.heap.size]? = some (.cells #[.int .u8 34] 5 (0, 0)) := h2.at h4 (fun h => h)
    refine ⟨0, [34], w.heap.size, 1, 1, rfl, rfl, by omega, rfl, by omega, by omega, by omega, by omega, Lib.hid ⟨rfl, ?_, h1, ((Fr.refl No w).alloc _).trans_same h2⟩, by omega⟩
    exact ⟨by simp, .inr ⟨w.heap.size, 1, #[.int .u8 34], rfl, Nat.le_refl _, h5, by decide, by decide, by decide, by rfl⟩⟩
  case round =>
    obtain ⟨k, acc, bk, cp, n, rfl, rfl, hk, hn, hn4, hbk, hbl, hsz, HS, hg⟩ := hrel
    by_cases hlt : k < s.size
    · have hlt2 : (k : Int) < (s.size : Int) := by omega
      obtain ⟨c, hc⟩ : ∃ c, s[k] = c := ⟨_, rfl⟩
      have hcell := HRD.out wr HS.out.2.2.1 k hlt
      rw [hc] at hcell
      have HST := Lib.hid (show ∀ x, quoteByte c = x → acc ++ x = 34 :: (s.data.toList.take (k + 1)).flatMap quoteByte from fun x hx => by
        rw [HS.out.1, quote_step _ _ (by simpa using hlt), ← hx]
        have : s.data.toList[k]'(by simpa using hlt) = c := by rw [← hc]; rfl
        rw [this]; simp)
      have HQ0 := Lib.hid (fun wx => qIdx_call c wx)
      by_cases h1 : c = 10
      · have hq : qIdx c = 0 := by rw [h1]; rfl
        have HQ := Lib.hid (fun wx => hq ▸ HQ0.out wx)
        have HX := Lib.hid (HST.out [92, 110] (by rw [h1]; rfl))
        clear hc hq h1
        go_wp2_with (first | (go_at_call 39; refine (HQ.out _).mono ?_; rintro e w' ⟨rfl, rfl⟩) | (at_builtin; go_must (refine wpList_append_bs rfl _ _ rfl w.heap.size _ acc n hn rfl (by exact HS.out.2.1.kept ((Fr.refl No wr).alloc _) (fun _ _ h => h)) _ _ [92, 110] 2 rfl rfl (by exact heap_alloc_new wr _) (by decide) (by omega) (by have := HS.out.2.2.2.size; simp; omega) (wr.heap.size + 1) (by simp) ?_); intro g' cap' w3 hown' hgrow hat hlt3))
        go_roundg (gk - 1)
        case measure => omega
        case rel =>
          obtain ⟨q1, q2, q3, q4⟩ := q_next hgrow HS.out.2.2.1 hbk HS.out.2.2.2 ((World.ownsRow.lt HS.out.2.1 bk rfl).1) hat hsz
          exact ⟨k + 1, acc ++ [92, 110], g', cap', n + 2, rfl, by go_num, by omega, by simp [hn], by omega, q3, hlt3, q4, Lib.hid ⟨HX.out, hown', q1, q2⟩, by omega⟩
      by_cases h2 : c = 13
      · have hq : qIdx c = 1 := by rw [h2]; rfl
        have HQ := Lib.hid (fun wx => hq ▸ HQ0.out wx)
        have HX := Lib.hid (HST.out [92, 114] (by rw [h2]; rfl))
        clear hc hq h1 h2
        go_wp2_with (first | (go_at_call 39; refine (HQ.out _).mono ?_; rintro e w' ⟨rfl, rfl⟩) | (at_builtin; go_must (refine wpList_append_bs rfl _ _ rfl w.heap.size _ acc n hn rfl (by exact HS.out.2.1.kept ((Fr.refl No wr).alloc _) (fun _ _ h => h)) _ _ [92, 114] 2 rfl rfl (by exact heap_alloc_new wr _) (by decide) (by omega) (by have := HS.out.2.2.2.size; simp; omega) (wr.heap.size + 1) (by simp) ?_); intro g' cap' w3 hown' hgrow hat hlt3))
        go_roundg (gk - 1)
        case measure => omega
        case rel =>
          obtain ⟨q1, q2, q3, q4⟩ := q_next hgrow HS.out.2.2.1 hbk HS.out.2.2.2 ((World.ownsRow.lt HS.out.2.1 bk rfl).1) hat hsz
          exact ⟨k + 1, acc ++ [92, 114], g', cap', n + 2, rfl, by go_num, by omega, by simp [hn], by omega, q3, hlt3, q4, Lib.hid ⟨HX.out, hown', q1, q2⟩, by omega⟩
      by_cases h3 : c = 9
      · have hq : qIdx c = 2 := by rw [h3]; rfl
        have HQ := Lib.hid (fun wx => hq ▸ HQ0.out wx)
        have HX := Lib.hid (HST.out [92, 116] (by rw [h3]; rfl))
        clear hc hq h1 h2 h3
        go_wp2_with (first | (go_at_call 39; refine (HQ.out _).mono ?_; rintro e w' ⟨rfl, rfl⟩) | (at_builtin; go_must (refine wpList_append_bs rfl _ _ rfl w.heap.size _ acc n hn rfl (by exact HS.out.2.1.kept ((Fr.refl No wr).alloc _) (fun _ _ h => h)) _ _ [92, 116] 2 rfl rfl (by exact heap_alloc_new wr _) (by decide) (by omega) (by have := HS.out.2.2.2.size; simp; omega) (wr.heap.size + 1) (by simp) ?_); intro g' cap' w3 hown' hgrow hat hlt3))
        go_roundg (gk - 1)
        case measure => omega
        case rel =>
          obtain ⟨q1, q2, q3, q4⟩ := q_next hgrow HS.out.2.2.1 hbk HS.out.2.2.2 ((World.ownsRow.lt HS.out.2.1 bk rfl).1) hat hsz
          exact ⟨k + 1, acc ++ [92, 116], g', cap', n + 2, rfl, by go_num, by omega, by simp [hn], by omega, q3, hlt3, q4, Lib.hid ⟨HX.out, hown', q1, q2⟩, by omega⟩
      by_cases h4 : c = 34
      · have hq : qIdx c = 3 := by rw [h4]; rfl
        have HQ := Lib.hid (fun wx => hq ▸ HQ0.out wx)
        have HX := Lib.hid (HST.out [92, 34] (by rw [h4]; rfl))
        clear hc hq h1 h2 h3 h4
        go_wp2_with (first | (go_at_call 39; refine (HQ.out _).mono ?_; rintro e w' ⟨rfl, rfl⟩) | (at_builtin; go_must (refine wpList_append_bs rfl _ _ rfl w.heap.size _ acc n hn rfl (by exact HS.out.2.1.kept ((Fr.refl No wr).alloc _) (fun _ _ h => h)) _ _ [92, 34] 2 rfl rfl (by exact heap_alloc_new wr _) (by decide) (by omega) (by have := HS.out.2.2.2.size; simp; omega) (wr.heap.size + 1) (by simp) ?_); intro g' cap' w3 hown' hgrow hat hlt3))
        go_roundg (gk - 1)
        case measure => omega
        case rel =>
          obtain ⟨q1, q2, q3, q4⟩ := q_next hgrow HS.out.2.2.1 hbk HS.out.2.2.2 ((World.ownsRow.lt HS.out.2.1 bk rfl).1) hat hsz
          exact ⟨k + 1, acc ++ [92, 34], g', cap', n + 2, rfl, by go_num, by omega, by simp [hn], by omega, q3, hlt3, q4, Lib.hid ⟨HX.out, hown', q1, q2⟩, by omega⟩
      by_cases h5 : c = 92
      · have hq : qIdx c = 4 := by rw [h5]; rfl
        have HQ := Lib.hid (fun wx => hq ▸ HQ0.out wx)
        have HX := Lib.hid (HST.out [92, 92] (by rw [h5]; rfl))
        clear hc hq h1 h2 h3 h4 h5
        go_wp2_with (first | (go_at_call 39; refine (HQ.out _).mono ?_; rintro e w' ⟨rfl, rfl⟩) | (at_builtin; go_must (refine wpList_append_bs rfl _ _ rfl w.heap.size _ acc n hn rfl (by exact HS.out.2.1.kept ((Fr.refl No wr).alloc _) (fun _ _ h => h)) _ _ [92, 92] 2 rfl rfl (by exact heap_alloc_new wr _) (by decide) (by omega) (by have := HS.out.2.2.2.size; simp; omega) (wr.heap.size + 1) (by simp) ?_); intro g' cap' w3 hown' hgrow hat hlt3))
        go_roundg (gk - 1)
        case measure => omega
        case rel =>
          obtain ⟨q1, q2, q3, q4⟩ := q_next hgrow HS.out.2.2.1 hbk HS.out.2.2.2 ((World.ownsRow.lt HS.out.2.1 bk rfl).1) hat hsz
          exact ⟨k + 1, acc ++ [92, 92], g', cap', n + 2, rfl, by go_num, by omega, by simp [hn], by omega, q3, hlt3, q4, Lib.hid ⟨HX.out, hown', q1, q2⟩, by omega⟩
      have hq := qIdx_none h1 h2 h3 h4 h5
      have HQ := Lib.hid (fun wx => hq ▸ HQ0.out wx)
      by_cases h6 : c.toNat < 32 ∨ 126 < c.toNat
      · have HX := Lib.hid (HST.out _ (by unfold quoteByte; rw [if_neg h1, if_neg h2, if_neg h3, if_neg h4, if_neg h5, if_pos h6]))
        clear hc hq h1 h2 h3 h4 h5
        have cb1 : (c.toNat : Int) < 256 := by have := c.toNat_lt; omega
        have h6b : (c.toNat : Int) < 32 ∨ (¬ (c.toNat : Int) < 32 ∧ (126 : Int) < (c.toNat : Int)) := by omega
        clear h6
        rcases h6b with h6b | ⟨h6a, h6b⟩
        · go_wp2_with (first | (go_at_call 39; refine (HQ.out _).mono ?_; rintro e w' ⟨rfl, rfl⟩) | (at_builtin; go_must (refine wpList_append_bs rfl _ _ rfl w.heap.size _ acc n hn rfl (by exact HS.out.2.1.kept ((Fr.refl No wr).alloc _) (fun _ _ h => h)) _ _ [92, UInt8.ofNat (48 + c.toNat / 64), UInt8.ofNat (48 + c.toNat / 8 % 8), UInt8.ofNat (48 + c.toNat % 8)] 4 rfl rfl (by rw [oct_cells c]; exact heap_alloc_new wr _) (by decide) (by omega) (by have := HS.out.2.2.2.size; simp; omega) (wr.heap.size + 1) (by simp) ?_); intro g' cap' w3 hown' hgrow hat hlt3))
          go_roundg (gk - 1)
          case measure => omega
          case rel =>
            obtain ⟨q1, q2, q3, q4⟩ := q_next hgrow HS.out.2.2.1 hbk HS.out.2.2.2 ((World.ownsRow.lt HS.out.2.1 bk rfl).1) hat hsz
            exact ⟨k + 1, acc ++ [92, UInt8.ofNat (48 + c.toNat / 64), UInt8.ofNat (48 + c.toNat / 8 % 8), UInt8.ofNat (48 + c.toNat % 8)], g', cap', n + 4, rfl, by go_num, by omega, by simp [hn], by omega, q3, hlt3, q4, Lib.hid ⟨HX.out, hown', q1, q2⟩, by omega⟩
        · go_wp2_with (first | (go_at_call 39; refine (HQ.out _).mono ?_; rintro e w' ⟨rfl, rfl⟩) | (at_builtin; go_must (refine wpList_append_bs rfl _ _ rfl w.heap.size _ acc n hn rfl (by exact HS.out.2.1.kept ((Fr.refl No wr).alloc _) (fun _ _ h => h)) _ _ [92, UInt8.ofNat (48 + c.toNat / 64), UInt8.ofNat (48 + c.toNat / 8 % 8), UInt8.ofNat (48 + c.toNat % 8)] 4 rfl rfl (by rw [oct_cells c]; exact heap_alloc_new wr _) (by decide) (by omega) (by have := HS.out.2.2.2.size; simp; omega) (wr.heap.size + 1) (by simp) ?_); intro g' cap' w3 hown' hgrow hat hlt3))
          go_roundg (gk - 1)
          case measure => omega
          case rel =>
            obtain ⟨q1, q2, q3, q4⟩ := q_next hgrow HS.out.2.2.1 hbk HS.out.2.2.2 ((World.ownsRow.lt HS.out.2.1 bk rfl).1) hat hsz
            exact ⟨k + 1, acc ++ [92, UInt8.ofNat (48 + c.toNat / 64), UInt8.ofNat (48 + c.toNat / 8 % 8), UInt8.ofNat (48 + c.toNat % 8)], g', cap', n + 4, rfl, by go_num, by omega, by simp [hn], by omega, q3, hlt3, q4, Lib.hid ⟨HX.out, hown', q1, q2⟩, by omega⟩
      have HX := Lib.hid (HST.out [c] (by unfold quoteByte; rw [if_neg h1, if_neg h2, if_neg h3, if_neg h4, if_neg h5, if_neg h6]))
      have h6a : ¬ (c.toNat : Int) < 32 := by omega
      have h6b : ¬ (126 : Int) < (c.toNat : Int) := by omega
      clear hc hq h1 h2 h3 h4 h5 h6
      go_wp2_with (first | (go_at_call 39; refine (HQ.out _).mono ?_; rintro e w' ⟨rfl, rfl⟩) | (at_builtin; go_must (refine wpList_append_bs rfl _ _ rfl w.heap.size _ acc n hn rfl (by exact HS.out.2.1.kept ((Fr.refl No wr).alloc _) (fun _ _ h => h)) _ _ [c] 1 rfl rfl (by exact heap_alloc_new wr _) (by decide) (by omega) (by have := HS.out.2.2.2.size; simp; omega) (wr.heap.size + 1) (by simp) ?_); intro g' cap' w3 hown' hgrow hat hlt3))
      go_roundg (gk - 1)
      case measure => omega
      case rel =>
        obtain ⟨q1, q2, q3, q4⟩ := q_next hgrow HS.out.2.2.1 hbk HS.out.2.2.2 ((World.ownsRow.lt HS.out.2.1 bk rfl).1) hat hsz
        exact ⟨k + 1, acc ++ [c], g', cap', n + 1, rfl, by go_num, by omega, by simp [hn], by omega, q3, hlt3, q4, Lib.hid ⟨HX.out, hown', q1, q2⟩, by omega⟩
    · have hlt2 : ¬ (k : Int) < (s.size : Int) := by omega
      have hks : k = s.size := by omega
      have HX := Lib.hid (show acc ++ [34] = quote s.data.toList by rw [HS.out.1, hks, List.take_of_length_le (by simp)]; rfl)
      clear hks
      go_wp2_with (first | (at_builtin; go_must (refine wpList_append_bs rfl _ _ rfl w.heap.size _ acc n hn rfl (by exact HS.out.2.1.kept ((Fr.refl No wr).alloc _) (fun _ _ h => h)) _ _ [34] 1 rfl rfl (by exact heap_alloc_new wr _) (by decide) (by omega) (by have := HS.out.2.2.2.size; simp; omega) (wr.heap.size + 1) (by simp) ?_); intro g' cap' w3 hown' hgrow hat hlt3; have hcv2 := hown'.conv; rw [HX.out] at hcv2))
      go_ret
      obtain ⟨q1, q2, q3, q4⟩ := q_next hgrow HS.out.2.2.1 hbk HS.out.2.2.2 ((World.ownsRow.lt HS.out.2.1 bk rfl).1) hat hsz
      exact ⟨rfl, q2⟩
end Go.Proofs.YtbdheihjnkfpiaaGreatDoor
