/-
  The document's words walked.
-/
import Derived.Test.YtjidpccgjiogbaaGreatDoorNu
import Derived.Deep.RegionLaw
import Derived.Deep.AppendLies
namespace Go.Proofs.YtjidpccgjiogbaaGreatDoor
open Go Go.RowKit
/-- A line's words, parted by blanks: the last one is still growing. -/
def wordsFrom (done : List Bytes) (cur : Bytes) : Bytes → List Bytes
  | [] => done ++ [cur]
  | c :: l => if c = 32 then wordsFrom (done ++ [cur]) [] l else wordsFrom done (cur ++ [c]) l
def words31 (s : Bytes) : List Bytes := wordsFrom [] [] s
theorem str_self (o : ByteArray) : (⟨o.data.toList.toArray⟩ : ByteArray) = o := by cases o; simp
theorem one_byte (s : ByteArray) (k : Nat) (hk : k < s.size) : s.extract k (k + 1) = ⟨#[s[k]]⟩ := by
  apply ByteArray.ext
  rw [ByteArray.data_extract]
  have hk' : k < s.data.size := hk
  apply Array.ext
  · simp; omega
  · intro i h1 h2
    have : i = 0 := by simp at h2; omega
    subst this
    simp
    rfl
def strV (b : Bytes) : Value := .string ⟨b.toArray⟩
/-- The slice v owns these words. -/
def OwnsS (w : World) (base : Nat) (v : Value) (ws : List Bytes) : Prop := w.ownsRow base 9 1 v ws.length (ws.map strV)
theorem infoStr : (Tryz.prog.info? 9).map (fun i => (i.zero, i.size, i.bytes)) = some (some (.string ⟨#[]⟩), 1, 16) := by kernel_rfl
/-- Where words are written: the block is known. -/
structure WS (w : World) (g cap : Nat) (ws : List Bytes) (W : World) : Prop where
  own : OwnsS W w.heap.size (.slice (some ⟨g, 0, none⟩) ws.length cap) ws
  fr : Fr No w W
  lt : w.heap.size ≤ g ∧ g < W.heap.size
theorem own_block {w : World} {base : Nat} {e : TypeId} {n g cap : Nat} {xs : List Value} (h : w.ownsRow base e 1 (.slice (some ⟨g, 0, none⟩) n cap) n xs) : ∃ cur, w.heap[g]? = some (.cells cur e (0, 0)) ∧ n ≤ cap ∧ cap ≤ maxLen ∧ cur.size = cap ∧ cur.toList.take n = xs ∧ base ≤ g := by
  rcases h.2 with ⟨h', _⟩ | ⟨g', cap', cur, h', hb, hg, hc, hm, hs, ht⟩
  · cases h'
  · cases h'
    exact ⟨cur, hg, hc, hm, by omega, by simpa using ht, hb⟩
theorem WS.last {w : World} {g cap N : Nat} {done : List Bytes} {x : Bytes} {W : World} (h : WS w g cap (done ++ [x]) W) (hN : done.length = N) :
    W.cell? ⟨g, N, none⟩ = some (strV x) ∧ W.frozen? ⟨g, N, none⟩ = false ∧ g < W.heap.size ∧ N < cap ∧ cap ≤ maxLen := by
  have ho := h.own
  unfold OwnsS at ho
  have hc := World.ownsRow.cellAt ho N (by simp; omega)
  obtain ⟨cur, hg, h1, h2, h3, h4, h5⟩ := own_block ho
  refine ⟨?_, by simp [World.frozen?, hg], h.lt.2, by simp at h1; omega, h2⟩
  rw [hc, List.map_append, List.getElem?_append_right (by simp; omega)]
  simp [hN]
theorem WS.store {w : World} {g cap N : Nat} {done : List Bytes} {x : Bytes} {W : World} (h : WS w g cap (done ++ [x]) W) (hN : done.length = N) (y : Bytes) : WS w g cap (done ++ [y]) (W.setCell ⟨g, N, none⟩ (strV y)) := by
  have ho := h.own
  unfold OwnsS at ho
  obtain ⟨cur, hg, h1, h2, h3, h4, h5⟩ := own_block ho
  have h1' : N + 1 ≤ cap := by simp at h1; omega
  refine ⟨⟨by simp, .inr ⟨g, cap, cur.setIfInBounds N (strV y), by simp, h5, heap_setCell_same W g N _ _ _ hg, by simp; omega, h2, by simp; omega, ?_⟩⟩, h.fr.setCell _ _ (fun hlt => absurd hlt (by have := h.lt.1; show ¬ g < w.heap.size; omega)), h.lt.1, by simpa [World.setCell] using h.lt.2⟩
  simp only [List.length_append, List.length_singleton, Nat.mul_one] at h4 ⊢
  rw [hN] at h4 ⊢
  rw [Array.toList_setIfInBounds]
  have e : (done ++ [x]).map strV = done.map strV ++ [strV x] := by simp
  rw [e] at h4
  have hlen : (done.map strV).length = N := by simp [hN]
  rw [List.take_set, h4, List.set_append_right _ _ (by omega), hlen]
  simp
theorem WS.drew {w : World} {g cap : Nat} {ws : List Bytes} {W : World} (h : WS w g cap ws W) : WS w g cap ws W.drew := ⟨h.own, h.fr.drew, h.lt⟩
theorem WS.no {w : World} {g cap : Nat} {ws : List Bytes} {W W' : World} (h : WS w g cap ws W) (hf : Fr No W W') : WS w g cap ws W' :=
  ⟨hf.owns h.own (fun _ _ h => h), h.fr.trans_same hf, h.lt.1, Nat.lt_of_lt_of_le h.lt.2 hf.size⟩
set_option maxRecDepth 100000 in
set_option maxHeartbeats 8000000 in
theorem rwords_any (s : ByteArray) (w : World) (hs : s.size ≤ 1000000000) :
    Calls Tryz.prog 37 #[.string s] w fun e w' => ∃ g cap, e = .returned (.slice (some ⟨g, 0, none⟩) (words31 s.data.toList).length cap) ∧ WS w g cap (words31 s.data.toList) w' := by
  obtain ⟨R, hR⟩ : ∃ R, R = words31 s.data.toList := ⟨_, rfl⟩
  rw [← hR]
  have HR := Lib.hid hR
  clear hR
  go_enter Tryz.func37, Tryz.ntmps37
  go_wp2_with fail
  go_loopg [3, 4] s.size (fun gk v3 v4 wr => ∃ (i g cap N : Nat) (done : List Bytes) (cur : ByteArray), v3 = .slice (some ⟨g, 0, none⟩) (N + 1) cap ∧ v4 = .int .i64 i ∧ i ≤ s.size ∧ N ≤ i ∧ cur.size ≤ i ∧ Hid (done.length = N ∧ WS w g cap (done ++ [cur.data.toList]) wr) ∧ Hid (R = wordsFrom done cur.data.toList (s.data.toList.drop i)) ∧ gk + i = s.size)
  case atStart =>
    refine ⟨0, w.heap.size, 1, 0, [], ⟨#[]⟩, rfl, rfl, by omega, by omega, by decide, Lib.hid ⟨rfl, ?_⟩, Lib.hid HR.out, by omega⟩
    exact ⟨⟨rfl, .inr ⟨w.heap.size, 1, _, rfl, Nat.le_refl _, heap_alloc_new w _, Nat.le_refl _, by unfold maxLen; omega, rfl, rfl⟩⟩, (Fr.refl _ _).alloc _, Nat.le_refl _, by simp⟩
  case round =>
    obtain ⟨i, g, cap, N, done, cur, rfl, rfl, hi, hL, hcur, HW, HD, hgk⟩ := hrel
    have HG := Lib.hid hgk
    clear hgk HR
    obtain ⟨hcell0, hfz, hg, hNc, hcm⟩ := HW.out.2.last HW.out.1
    have hcell : wr.cell? ⟨g, N, none⟩ = some (.string cur) := hcell0.trans (by unfold strV; rw [str_self])
    clear hcell0
    unfold maxLen at hcm
    by_cases hlt : i < s.size
    · have hlti : (i : Int) < (s.size : Int) := by omega
      have hd := drop_byte s i hlt
      obtain ⟨c, hc⟩ : ∃ c, s[i] = c := ⟨_, rfl⟩
      rw [hc] at hd
      have HD2 := Lib.hid (HD.out.trans (by rw [hd]))
      clear hd HD
      cases hb : (c.toNat : Int) == 32
      · have hne : c ≠ 32 := fun e => by rw [e] at hb; simp at hb
        obtain ⟨r, hr⟩ : ∃ r, s.extract i (i + 1) = r := ⟨_, rfl⟩
        have hr1 : r = ⟨#[c]⟩ := by rw [← hr, one_byte s i hlt, hc]
        have hrs : r.size = 1 := by rw [hr1]; rfl
        have HD3 : Hid (R = wordsFrom done (cur ++ r).data.toList (s.data.toList.drop (i + 1))) := Lib.hid (by
          have e : (cur ++ (⟨#[c]⟩ : ByteArray)).data.toList = cur.data.toList ++ [c] := by simp
          rw [HD2.out, wordsFrom, if_neg hne, hr1, e])
        have hWS : Hid (WS w g cap (done ++ [(cur ++ r).data.toList]) (wr.setCell ⟨g, N, none⟩ (.string (cur ++ r))).drew) := Lib.hid (by
          have h := HW.out.2.store HW.out.1 (cur ++ r).data.toList
          unfold strV at h
          rw [str_self] at h
          exact h.drew)
        clear hr1 hne HD2
        go_upto_region 7 with fail
        go_region
        go_wp2_with fail
        go_roundg (gk - 1)
        case measure => have := HG.out; omega
        case rel => exact ⟨i + 1, g, cap, N, done, _, rfl, by go_num, by omega, by omega, by rw [ByteArray.size_append', hrs]; omega, Lib.hid ⟨HW.out.1, hWS.out⟩, HD3, by have := HG.out; omega⟩
      · have heq : c = 32 := by rw [← UInt8.toNat_inj]; have := beq_iff_eq.1 hb; show c.toNat = 32; omega
        obtain ⟨i0, hi0, hz0, hz1, hz2⟩ := info_parts infoStr
        have HD3 : Hid (R = wordsFrom (done ++ [cur.data.toList]) [] (s.data.toList.drop (i + 1))) := Lib.hid (by
          rw [HD2.out, wordsFrom, if_pos heq])
        have HOW : Hid (∀ o, (wr.alloc o).ownsRow w.heap.size 9 1 (.slice (some ⟨g, 0, none⟩) (N + 1) cap) (N + 1) ((done ++ [cur.data.toList]).map strV)) := Lib.hid (fun o => by
          have h := ((Fr.refl No wr).alloc o).owns HW.out.2.own (fun _ _ h => h)
          have e : (done ++ [cur.data.toList]).length = N + 1 := by rw [List.length_append, HW.out.1]; rfl
          rw [e] at h
          exact h)
        clear heq HD2
        go_wp2_with (at_builtin; refine wpList_append_lies (P := Tryz.prog) _ rfl _ _ 76 rfl w.heap.size 9 i0 (.string ⟨#[]⟩) 1 16 Tryz.underlying76 hi0 hz0 hz1 hz2 rfl (by decide) _ (N + 1) _ rfl (HOW.out _) ⟨wr.heap.size, 0, none⟩ 1 1 [.string ⟨#[]⟩] rfl rfl ?c1 ?c2 (by decide) ?c3 ?c4 ?c5 _ rfl ?_)
        case c1 =>
          intro j u hj
          match j, hj with
          | 0, hj => simp at hj; subst hj; simp [Addr.add]
        case c2 => intro u hu; simp at hu; subst hu; rfl
        case c3 => unfold maxLen; omega
        case c4 => omega
        case c5 => have := HW.out.2.fr.size; simp; omega
        intro g2 cap2 w2 k1 k2 k3 k4
        have HW3 : Hid ((done ++ [cur.data.toList]).length = N + 1 ∧ WS w g2 cap2 ((done ++ [cur.data.toList]) ++ [(⟨#[]⟩ : ByteArray).data.toList]) w2) := Lib.hid (by
          have e : (done ++ [cur.data.toList]).length = N + 1 := by rw [List.length_append, HW.out.1]; rfl
          have hfr : Fr No w w2 := (HW.out.2.fr.alloc _).grown k2 (by
            intro k e hk
            have e2 : k = g := by simpa [Value.ownBlock] using e.symm
            have := HW.out.2.lt.1
            omega)
          refine ⟨e, ?_, hfr, ?_, k4⟩
          · unfold OwnsS
            have e2 : ((done ++ [cur.data.toList]) ++ [(⟨#[]⟩ : ByteArray).data.toList]).length = N + 1 + 1 := by rw [List.length_append, e]; rfl
            rw [e2]
            have e3 : ((done ++ [cur.data.toList]) ++ [(⟨#[]⟩ : ByteArray).data.toList]).map strV = done.map strV ++ [strV cur.data.toList, .string ⟨#[]⟩] := by simp [strV]
            rw [e3]
            exact k1
          · rcases k3 with k3 | k3
            · have e3 : g = g2 := by simpa [Value.ownBlock] using k3
              subst e3; exact HW.out.2.lt.1
            · have := HW.out.2.fr.size
              omega)
        clear k1 k2 k3 k4
        go_wp2_with fail
        go_roundg (gk - 1)
        case measure => have := HG.out; omega
        case rel => exact ⟨i + 1, g2, cap2, N + 1, done ++ [cur.data.toList], ⟨#[]⟩, rfl, by go_num, by omega, by omega, Nat.zero_le _, HW3, HD3, by have := HG.out; omega⟩
    · have hlti : ¬ (i : Int) < (s.size : Int) := by omega
      have HE : Hid (done ++ [cur.data.toList] = R) := Lib.hid (by rw [HD.out, List.drop_eq_nil_of_le (by simp; omega)]; rfl)
      have HL : Hid (R.length = N + 1) := Lib.hid (by rw [← HE.out, List.length_append, HW.out.1]; rfl)
      have HW2 : Hid (WS w g cap R wr) := Lib.hid (by rw [← HE.out]; exact HW.out.2)
      go_wp2_with fail
      go_ret
      exact ⟨g, cap, by rw [HL.out]; rfl, HW2.out⟩
end Go.Proofs.YtjidpccgjiogbaaGreatDoor
