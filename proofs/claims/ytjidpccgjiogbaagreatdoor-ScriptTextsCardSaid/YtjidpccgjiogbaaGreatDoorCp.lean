/-
  copied walked: an event in memory of its own.
-/
import Derived.Test.YtjidpccgjiogbaaGreatDoorKz
import Derived.Test.YtjidpccgjiogbaaGreatDoorKp
import Derived.Deep.DeepCutAuto
namespace Go.Proofs.YtjidpccgjiogbaaGreatDoor
open Go Go.RowKit
theorem Row.new {W : World} {g : Nat} {cs : List Value} {T : TypeId} {fr : Nat × Nat} (h : W.heap[g]? = some (.cells cs.toArray T fr)) : Row W g cs :=
  ⟨lt_of_block h, fun j v hj => by simp [World.cell?, h, hj]⟩
theorem Row.add {W : World} {g : Nat} {cs : List Value} (h : Row W g cs) : ∀ j u, cs[j]? = some u → W.cell? ((⟨g, 0, none⟩ : Addr).add j) = some u := fun j u hj => by
  have hadd : (⟨g, 0, none⟩ : Addr).add j = ⟨g, j, none⟩ := by
    unfold Addr.add
    split
    · rename_i h0; subst h0; rfl
    · rw [Nat.zero_add]
  rw [hadd]
  exact h.2 j u hj
theorem Row.grown {W W' : World} {g : Nat} {cs : List Value} {v : Value} (h : Row W g cs) (k : W.grownBy W' v.ownBlock) (hne : some g ≠ v.ownBlock) : Row W' g cs :=
  ⟨Nat.lt_of_lt_of_le h.1 k.size, fun j u hj => (show W'.cell? ⟨g, j, none⟩ = W.cell? ⟨g, j, none⟩ from World.cell?_of_block (w := W) (k.block g h.1 hne)).trans (h.2 j u hj)⟩
theorem own_cap {W : World} {base size g cap n : Nat} {T : TypeId} {xs : List Value} (h : W.ownsRow base T size (.slice (some ⟨g, 0, none⟩) n cap) n xs) : n ≤ cap := by
  rcases h.2 with ⟨h1, _⟩ | ⟨g', cap', cur, e, _, hg, hnc, hr⟩
  · cases h1
  · injection e with e1 e2 e3
    subst e3
    exact hnc
theorem fateCs_one (l : List (Int × Int)) : ∀ u ∈ fateCs l, u.oneCell' = true := by
  intro u hu
  unfold fateCs at hu
  obtain ⟨f, _, hf⟩ := List.mem_flatMap.1 hu
  simp at hf
  rcases hf with rfl | rfl <;> rfl
/-- Where copied stands: the event in its block, the block of the result. -/
structure CP (w : World) (B : Nat) (k cn : Int) (v1 v2 v3 : Value) (W : World) : Prop where
  ev : W.heap[B]? = some (.cells #[.int .i64 k, .int .i64 cn, v1, v2, v3] 27 (0, 0))
  rs : W.heap[B + 1]? = some (.cells #[.int .i64 0, .int .i64 0, .slice none 0 0, .slice none 0 0, .slice none 0 0] 27 (0, 0))
  fr : Fr No w W
  le : w.heap.size ≤ B
theorem CP.no {w : World} {B : Nat} {k cn : Int} {v1 v2 v3 : Value} {W W' : World} (h : CP w B k cn v1 v2 v3 W) (hf : Fr No W W') : CP w B k cn v1 v2 v3 W' :=
  ⟨hf.at h.ev (fun h => h), hf.at h.rs (fun h => h), h.fr.trans_same hf, h.le⟩
theorem CP.grown {w : World} {B : Nat} {k cn : Int} {v1 v2 v3 : Value} {W W' : World} {T : TypeId} {size n : Nat} {v : Value} {xs : List Value} (h : CP w B k cn v1 v2 v3 W)
    (ho : W.ownsRow w.heap.size T size v n xs) (hT : 27 ≠ T) (hg : W.grownBy W' v.ownBlock) : CP w B k cn v1 v2 v3 W' :=
  ⟨Kt.grown ho hg hT _ _ _ h.ev, Kt.grown ho hg hT _ _ _ h.rs, h.fr.grown hg (fun r e hr => by have := (World.ownsRow.lt ho r e).1; omega), h.le⟩
theorem CP.set {w : World} {B : Nat} {k cn : Int} {v1 v2 v3 : Value} {W : World} (h : CP w B k cn v1 v2 v3 W) (j : Nat) (u : Value) :
    (W.setCell ⟨B, j, none⟩ u).heap[B]? = some (.cells (#[.int .i64 k, .int .i64 cn, v1, v2, v3].setIfInBounds j u) 27 (0, 0)) ∧
    (W.setCell ⟨B, j, none⟩ u).heap[B + 1]? = some (.cells #[.int .i64 0, .int .i64 0, .slice none 0 0, .slice none 0 0, .slice none 0 0] 27 (0, 0)) ∧ Fr No w (W.setCell ⟨B, j, none⟩ u) :=
  ⟨heap_setCell_same W B j _ _ _ h.ev, (heap_setCell_other W ⟨B, j, none⟩ (B + 1) u (by show B + 1 ≠ B; omega)).trans h.rs, h.fr.setCell _ _ (fun hlt => absurd hlt (by have := h.le; show ¬ B < w.heap.size; omega))⟩
theorem CP.set2 {w : World} {B : Nat} {k cn : Int} {v1 v2 v3 : Value} {W : World} (h : CP w B k cn v1 v2 v3 W) (u : Value) : CP w B k cn u v2 v3 (W.setCell ⟨B, 2, none⟩ u) :=
  ⟨(h.set 2 u).1, (h.set 2 u).2.1, (h.set 2 u).2.2, h.le⟩
theorem CP.set3 {w : World} {B : Nat} {k cn : Int} {v1 v2 v3 : Value} {W : World} (h : CP w B k cn v1 v2 v3 W) (u : Value) : CP w B k cn v1 u v3 (W.setCell ⟨B, 3, none⟩ u) :=
  ⟨(h.set 3 u).1, (h.set 3 u).2.1, (h.set 3 u).2.2, h.le⟩
theorem CP.set4 {w : World} {B : Nat} {k cn : Int} {v1 v2 v3 : Value} {W : World} (h : CP w B k cn v1 v2 v3 W) (u : Value) : CP w B k cn v1 v2 u (W.setCell ⟨B, 4, none⟩ u) :=
  ⟨(h.set 4 u).1, (h.set 4 u).2.1, (h.set 4 u).2.2, h.le⟩
/-- A slice of n elements in memory of the call's own, one more element behind. -/
def Own (w : World) (T : TypeId) (size n : Nat) (cs : List Value) (v : Value) (W : World) : Prop :=
  ∃ g cap, v = .slice (some ⟨g, 0, none⟩) n cap ∧ W.ownsRow w.heap.size T size (.slice (some ⟨g, 0, none⟩) (n + 1) cap) (n + 1) cs
theorem Own.kt {w : World} {T : TypeId} {size n : Nat} {cs : List Value} {v : Value} {W W' : World} (h : Own w T size n cs v W) (hk : Kt T W W') : Own w T size n cs v W' := by
  obtain ⟨g, cap, h1, h2⟩ := h
  exact ⟨g, cap, h1, hk.owns h2⟩
theorem Own.row {w : World} {T : TypeId} {size n : Nat} {cs : List Value} {v : Value} {W : World} (h : Own w T size n cs v W) (hl : cs.length = (n + 1) * size) : ∃ g cap, v = .slice (some ⟨g, 0, none⟩) n cap ∧ Row W g cs ∧ n + 1 ≤ cap ∧ ∃ cur, W.heap[g]? = some (.cells cur T (0, 0)) := by
  obtain ⟨g, cap, e, ho⟩ := h
  have hb : ∃ cur, W.heap[g]? = some (.cells cur T (0, 0)) := by
    rcases ho.2 with ⟨h', _⟩ | ⟨g', cap', cur', h', _, hg, _⟩
    · cases h'
    · simp only [Value.slice.injEq, Option.some.injEq, Addr.mk.injEq, and_true, true_and] at h'
      obtain ⟨rfl, _⟩ := h'
      exact ⟨cur', hg⟩
  refine ⟨g, cap, e, ⟨(World.ownsRow.lt ho g rfl).2, fun j v hj => ?_⟩, own_cap ho, hb⟩
  have hj2 := (List.getElem?_eq_some_iff.1 hj).1
  rw [World.ownsRow.cellAt ho j (by omega)]
  rw [List.getElem?_eq_some_iff] at hj
  exact hj.2 ▸ (by simp)
/-- Its lists lie in blocks of their own elements. -/
def KeptTy (W : World) (v : Value) : Prop := ∃ k cn g1 n1 c1 g2 n2 c2 g3 n3 c3 cur1 cur2 cur3, v = .agg #[.int .i64 k, .int .i64 cn, .slice (some ⟨g1, 0, none⟩) n1 c1, .slice (some ⟨g2, 0, none⟩) n2 c2, .slice (some ⟨g3, 0, none⟩) n3 c3] ∧
  W.heap[g1]? = some (.cells cur1 5 (0, 0)) ∧ W.heap[g2]? = some (.cells cur2 70 (0, 0)) ∧ W.heap[g3]? = some (.cells cur3 3 (0, 0))
theorem results_copied (tmps : Array Value) (w : World) (g : Nat) (cs : Array Value) (h4 : tmps.getD 2 undef = .pointer (some ⟨g, 0, none⟩)) (hg : w.heap[g]? = some (.cells cs 27 (0, 0))) (hs : cs.size = 5) :
    (results Tryz.f8 tmps).run Tryz.prog w = .ok (.agg cs) w := by
  have h4' : tmps[2]?.getD undef = .pointer (some ⟨g, 0, none⟩) := by simpa using h4
  have hl := run_loadVar_row (P := Tryz.prog) w g 27 27 cs (0, 0) _ hg Tryz.underlying27 rfl (by rw [hs]; kernel_rfl)
  simp [results, Tryz.results8, h4', asAddr, hl]
set_option maxRecDepth 100000 in
set_option maxHeartbeats 8000000 in
theorem copied_ty (v : Value) (e : Ev) (w : World) (hv : EvAt w v e) (h1 : e.bytes.length ≤ 1000000) (h2 : e.fates.length ≤ 1000000) (h3 : e.picks.length ≤ 1000000) :
    Calls Tryz.prog 8 #[v] w fun en w' => ∃ v', en = .returned v' ∧ KeptAt w' v' e ∧ Fr No w w' ∧ KeptTy w' v' := by
  obtain ⟨a1, d1, a2, d2, a3, d3, rfl, c1, c2, c3⟩ := hv.form
  obtain ⟨k, hk⟩ : ∃ k, e.kind = k := ⟨_, rfl⟩
  obtain ⟨cn, hcn⟩ : ∃ cn, e.conn = cn := ⟨_, rfl⟩
  obtain ⟨n1, hn1⟩ : ∃ n, e.bytes.length = n := ⟨_, rfl⟩
  obtain ⟨n2, hn2⟩ : ∃ n, e.fates.length = n := ⟨_, rfl⟩
  obtain ⟨n3, hn3⟩ : ∃ n, e.picks.length = n := ⟨_, rfl⟩
  have HX := Lib.hid (And.intro c1 (And.intro c2 (And.intro c3 (And.intro hk (And.intro hcn (And.intro hn1 (And.intro hn2 hn3)))))))
  rw [hn1] at h1
  rw [hn2] at h2
  rw [hn3] at h3
  rw [hk, hcn, hn1, hn2, hn3]
  obtain ⟨B, hB⟩ : ∃ B, B = w.heap.size := ⟨_, rfl⟩
  obtain ⟨W0, hW0⟩ : ∃ W0, W0 = (w.alloc (.cells #[.int .i64 k, .int .i64 cn, .slice a1 n1 d1, .slice a2 n2 d2, .slice a3 n3 d3] 27)).alloc (.cells #[.int .i64 0, .int .i64 0, .slice none 0 0, .slice none 0 0, .slice none 0 0] 27) := ⟨_, rfl⟩
  have HC0 : Hid (CP w B k cn (.slice a1 n1 d1) (.slice a2 n2 d2) (.slice a3 n3 d3) W0) := Lib.hid (by
    have b1 := heap_alloc_new w (.cells #[.int .i64 k, .int .i64 cn, .slice a1 n1 d1, .slice a2 n2 d2, .slice a3 n3 d3] 27)
    have f2 : Fr No (w.alloc (.cells #[.int .i64 k, .int .i64 cn, .slice a1 n1 d1, .slice a2 n2 d2, .slice a3 n3 d3] 27)) W0 := by rw [hW0]; exact (Fr.refl _ _).alloc _
    have hs : (w.alloc (.cells #[.int .i64 k, .int .i64 cn, .slice a1 n1 d1, .slice a2 n2 d2, .slice a3 n3 d3] 27)).heap.size = w.heap.size + 1 := by simp
    have b2 : W0.heap[w.heap.size + 1]? = some (.cells #[.int .i64 0, .int .i64 0, .slice none 0 0, .slice none 0 0, .slice none 0 0] 27 (0, 0)) := by rw [hW0, ← hs]; exact heap_alloc_new _ _
    subst hB
    exact ⟨f2.at b1 (fun h => h), b2, ((Fr.refl No w).alloc _).trans_same f2, Nat.le_refl _⟩)
  have HWE := Lib.hid (And.intro hB hW0)
  clear c1 c2 c3 hk hcn hn1 hn2 hn3 hv hB hW0
  go_enter Tryz.func8, Tryz.ntmps8
  go_upto_region 1 with fail
  rw [← HWE.out.1, ← HWE.out.2]
  go_cut [] (fun wx => ∃ v1, CP w B k cn v1 (.slice a2 n2 d2) (.slice a3 n3 d3) wx ∧ Own w 5 1 n1 (byteCs e.bytes ++ [.int .u8 165]) v1 wx)
  obtain ⟨i0, hi0, hz0, hz1, hz2⟩ := info_parts infoByte
  refine Held.start 12 #[false, false, false, false, false, false, false, false, false, false, false, false] (z := 11) (S := (fun w1 => w1.cell? ⟨B, 2, none⟩ = some (.slice a1 n1 d1))) (by kernel_rfl) (by kernel_rfl) (by kernel_rfl) ?_
  obtain ⟨W1, hW1⟩ : ∃ W9, W9 = W0.drew := ⟨_, rfl⟩
  rw [← hW1]
  have f1 : Fr No W0 W1 := by rw [hW1]; exact (Fr.refl _ _).drew
  have C1 := Lib.hid (HC0.out.no f1)
  have s1 := (res_cells C1.out.ev).1.2.2.1
  clear hW1 f1
  refine Held.take 1 #[false, true, false, false, false, false, false, false, false, false, false, false] (v := ?v1x2) (by kernel_rfl) (nth_l rfl) (by kernel_rfl) (by kernel_rfl) (by kernel_rfl) (by kernel_rfl) ?hQ1x2 ?hy1x2 ?hS1x2 ?rest1x2
  case hQ1x2 => exact fun _ _ _ h => h
  case hy1x2 =>
    refine Or.inl ⟨by rfl, fun w1 hw1 => ?_⟩
    dsimp only at hw1
    go_simp
    try with_reducible rfl
  case hS1x2 => exact s1
  try simp only [Act.put, List.setIfInBounds_toArray, List.set_cons_zero, List.set_cons_succ]
  refine Held.take 2 #[false, true, true, false, false, false, false, false, false, false, false, false] (v := ?v2x3) (by kernel_rfl) (nth_l rfl) (by kernel_rfl) (by kernel_rfl) (by kernel_rfl) (by kernel_rfl) ?hQ2x3 ?hy2x3 ?hS2x3 ?rest2x3
  case hQ2x3 => exact fun _ _ _ h => h
  case hy2x3 =>
    refine Or.inl ⟨by rfl, fun w1 hw1 => ?_⟩
    dsimp only at hw1
    go_simp
    try with_reducible rfl
  case hS2x3 => exact s1
  try simp only [Act.put, List.setIfInBounds_toArray, List.set_cons_zero, List.set_cons_succ]
  refine Held.take 6 #[false, true, true, false, false, false, true, false, false, false, false, false] (v := ?v6x4) (by kernel_rfl) (nth_l rfl) (by kernel_rfl) (by kernel_rfl) (by kernel_rfl) (by kernel_rfl) ?hQ6x4 ?hy6x4 ?hS6x4 ?rest6x4
  case hQ6x4 => exact fun _ _ _ h => h
  case hy6x4 =>
    refine Or.inl ⟨by rfl, fun w1 hw1 => ?_⟩
    dsimp only at hw1
    go_simp
    try with_reducible rfl
  case hS6x4 => exact s1
  try simp only [Act.put, List.setIfInBounds_toArray, List.set_cons_zero, List.set_cons_succ]
  refine Held.take 7 #[false, true, true, false, false, false, true, true, false, false, false, false] (v := ?v7x5) (by kernel_rfl) (nth_l rfl) (by kernel_rfl) (by kernel_rfl) (by kernel_rfl) (by kernel_rfl) ?hQ7x5 ?hy7x5 ?hS7x5 ?rest7x5
  case hQ7x5 => exact fun _ _ _ h => h
  case hy7x5 =>
    refine Or.inl ⟨by rfl, fun w1 hw1 => ?_⟩
    dsimp only at hw1
    go_simp
    try with_reducible rfl
  case hS7x5 => exact s1
  try simp only [Act.put, List.setIfInBounds_toArray, List.set_cons_zero, List.set_cons_succ]
  refine Held.take 8 #[false, true, true, false, false, false, true, true, true, false, false, false] (v := ?v8x6) (by kernel_rfl) (nth_l rfl) (by kernel_rfl) (by kernel_rfl) (by kernel_rfl) (by kernel_rfl) ?hQ8x6 ?hy8x6 ?hS8x6 ?rest8x6
  case hQ8x6 => exact fun _ _ _ h => h
  case hy8x6 =>
    refine Or.inl ⟨by rfl, fun w1 hw1 => ?_⟩
    dsimp only at hw1
    go_simp
    try with_reducible rfl
  case hS8x6 => exact s1
  try simp only [Act.put, List.setIfInBounds_toArray, List.set_cons_zero, List.set_cons_succ]
  refine Held.two 0 4 #[true, true, true, false, false, false, true, true, true, false, false, false] #[false, true, true, false, true, false, true, true, true, false, false, false] (by kernel_rfl) (by kernel_rfl) (nth_l rfl) (nth_l rfl) (by kernel_rfl) (fun KK hKK => ?_) (fun KK hKK => ?_)
  · go_simp
    obtain ⟨W7, hW7⟩ : ∃ W9, W9 = W1.alloc (.cells #[] 5) := ⟨_, rfl⟩
    obtain ⟨G7, hG7⟩ : ∃ g9, g9 = W1.heap.size := ⟨_, rfl⟩
    rw [← hW7, ← hG7]
    have f7 : Fr No W1 W7 := by rw [hW7]; exact (Fr.refl _ _).alloc _
    have O7 : Hid (W7.ownsRow w.heap.size 5 1 (.slice (some ⟨G7, 0, none⟩) 0 0) 0 []) := Lib.hid (by rw [hW7, hG7]; exact World.ownsRow_lit _ #[] 0 C1.out.fr.size (by decide) rfl)
    have C7 := Lib.hid (C1.out.no f7)
    clear hW7 hG7 f7
    have s7 := (res_cells C7.out.ev).1.2.2.1
    refine hKK.out _ _ (fun _ => s7) ?_
    clear hKK KK
    try simp only [Act.put, List.setIfInBounds_toArray, List.set_cons_zero, List.set_cons_succ]
    refine Held.two 3 4 #[true, true, true, true, false, false, true, true, true, false, false, false] #[true, true, true, false, true, false, true, true, true, false, false, false] (by kernel_rfl) (by kernel_rfl) (nth_l rfl) (nth_l rfl) (by kernel_rfl) (fun KK hKK => ?_) (fun KK hKK => ?_)
    · refine step_append_any (P := Tryz.prog) rfl (.tmp 3) (.tmp 5) 23 rfl w.heap.size 5 i0 (.int .u8 0) 1 1 Tryz.underlying23 hi0 hz0 hz1 hz2 rfl (by decide) (.slice (some ⟨G7, 0, none⟩) 0 0) 0 [] rfl O7.out a1 n1 d1 (byteCs e.bytes) rfl (by unfold byteCs; rw [List.length_map, HX.out.2.2.2.2.2.1, Nat.mul_one]) (HX.out.1.no C7.out.fr) (by intro u hu; unfold byteCs at hu; obtain ⟨c, _, rfl⟩ := List.mem_map.1 hu; rfl) (by unfold maxLen; omega) (by omega) C7.out.fr.size ?_
      intro V8 W8 k1 k2
      have C8 := Lib.hid (C7.out.grown O7.out (by decide) k2)
      have O8 : Hid (W8.ownsRow w.heap.size 5 1 V8 n1 (byteCs e.bytes)) := Lib.hid (by rw [Nat.zero_add, List.nil_append] at k1; exact k1)
      clear k1 k2
      have s8 := (res_cells C8.out.ev).1.2.2.1
      refine hKK.out _ _ (fun _ => s8) ?_
      clear hKK KK
      try simp only [Act.put, List.setIfInBounds_toArray, List.set_cons_zero, List.set_cons_succ]
      refine Held.one 4 #[true, true, true, true, true, false, true, true, true, false, false, false] (by kernel_rfl) (nth_l rfl) (by kernel_rfl) (fun KK hKK => ?_)
      go_simp
      obtain ⟨W9, hW9⟩ : ∃ W9, W9 = W8.alloc (.cells #[.int .u8 165] 5) := ⟨_, rfl⟩
      obtain ⟨G9, hG9⟩ : ∃ g9, g9 = W8.heap.size := ⟨_, rfl⟩
      rw [← hW9, ← hG9]
      have f9 : Fr No W8 W9 := by rw [hW9]; exact (Fr.refl _ _).alloc _
      have N9 : Hid (Row W9 G9 [.int .u8 165]) := Lib.hid (Row.new (by rw [hW9, hG9]; exact heap_alloc_new _ _))
      have C9 := Lib.hid (C8.out.no f9)
      have O9 := Lib.hid ((Kt.ofFr f9).owns O8.out)
      clear hW9 hG9 f9
      have s9 := (res_cells C9.out.ev).1.2.2.1
      refine hKK.out _ _ (fun _ => s9) ?_
      clear hKK KK
      try simp only [Act.put, List.setIfInBounds_toArray, List.set_cons_zero, List.set_cons_succ]
      refine Held.one 5 #[true, true, true, true, true, true, true, true, true, false, false, false] (by kernel_rfl) (nth_l rfl) (by kernel_rfl) (fun KK hKK => ?_)
      refine step_append_lies (P := Tryz.prog) _ rfl (.tmp 6) (.tmp 7) 23 rfl w.heap.size 5 i0 (.int .u8 0) 1 1 Tryz.underlying23 hi0 hz0 hz1 hz2 rfl (by decide) V8 n1 (byteCs e.bytes) rfl O9.out ⟨G9, 0, none⟩ 1 1 [.int .u8 165] rfl rfl N9.out.add (by intro u hu; simp at hu; subst hu; rfl) (by decide) (by unfold maxLen; omega) (by omega) C9.out.fr.size _ rfl ?_
      intro G10 cap10 W10 k1 k2 k3 k4
      have C10 := Lib.hid (C9.out.grown O9.out (by decide) k2)
      have O10 := Lib.hid k1
      have hcap10 := own_cap k1
      have hci10 : (n1 : Int) ≤ (cap10 : Int) := by omega
      clear k1 k2 k3 k4
      have s10 := (res_cells C10.out.ev).1.2.2.1
      refine hKK.out _ _ (fun _ => s10) ?_
      clear hKK KK
      try simp only [Act.put, List.setIfInBounds_toArray, List.set_cons_zero, List.set_cons_succ]
      refine Held.take 9 #[true, true, true, true, true, true, true, true, true, true, false, false] (v := ?v9x11) (by kernel_rfl) (nth_l rfl) (by kernel_rfl) (by kernel_rfl) (by kernel_rfl) (by kernel_rfl) ?hQ9x11 ?hy9x11 ?hS9x11 ?rest9x11
      case hQ9x11 => exact fun _ _ _ h => h
      case hy9x11 =>
        refine Or.inl ⟨by rfl, fun w1 hw1 => ?_⟩
        dsimp only at hw1
        go_simp
        try with_reducible rfl
      case hS9x11 => exact s10
      try simp only [Act.put, List.setIfInBounds_toArray, List.set_cons_zero, List.set_cons_succ]
      refine Held.take 10 #[true, true, true, true, true, true, true, true, true, true, true, false] (v := ?v10x12) (by kernel_rfl) (nth_l rfl) (by kernel_rfl) (by kernel_rfl) (by kernel_rfl) (by kernel_rfl) ?hQ10x12 ?hy10x12 ?hS10x12 ?rest10x12
      case hQ10x12 => exact fun _ _ _ h => h
      case hy10x12 =>
        refine Or.inl ⟨by rfl, fun w1 hw1 => ?_⟩
        dsimp only at hw1
        go_simp
        try with_reducible rfl
      case hS10x12 => exact s10
      try simp only [Act.put, List.setIfInBounds_toArray, List.set_cons_zero, List.set_cons_succ]
      have fz10 := (res_cells C10.out.ev).2.2.2.1
      have lt10 := lt_of_block C10.out.ev
      refine Held.one 11 #[true, true, true, true, true, true, true, true, true, true, true, true] (by kernel_rfl) (nth_l rfl) (by kernel_rfl) (fun KK hKK => ?_)
      go_simp
      refine hKK.out _ _ (fun h => absurd rfl h) ?_
      clear hKK KK
      try simp only [Act.put, List.setIfInBounds_toArray, List.set_cons_zero, List.set_cons_succ]
      refine Held.done _ (by kernel_rfl) ?_
      go_wp2_with fail
      go_meet
      exact ⟨_, C10.out.set2 _, Own.kt ⟨G10, cap10, rfl, O10.out⟩ (Kt.set (p := ⟨B, 2, none⟩) C10.out.ev (by decide) _)⟩
    · go_simp
      obtain ⟨W13, hW13⟩ : ∃ W9, W9 = W7.alloc (.cells #[.int .u8 165] 5) := ⟨_, rfl⟩
      obtain ⟨G13, hG13⟩ : ∃ g9, g9 = W7.heap.size := ⟨_, rfl⟩
      rw [← hW13, ← hG13]
      have f13 : Fr No W7 W13 := by rw [hW13]; exact (Fr.refl _ _).alloc _
      have N13 : Hid (Row W13 G13 [.int .u8 165]) := Lib.hid (Row.new (by rw [hW13, hG13]; exact heap_alloc_new _ _))
      have C13 := Lib.hid (C7.out.no f13)
      have O13 := Lib.hid ((Kt.ofFr f13).owns O7.out)
      have E13 : Hid (some G13 ≠ (Value.slice (some ⟨G7, 0, none⟩) 0 0).ownBlock) := Lib.hid (by intro e9; have e8 : G13 = G7 := Option.some.inj e9; have e7 := (World.ownsRow.lt O7.out G7 rfl).2; omega)
      clear hW13 hG13 f13
      have s13 := (res_cells C13.out.ev).1.2.2.1
      refine hKK.out _ _ (fun _ => s13) ?_
      clear hKK KK
      try simp only [Act.put, List.setIfInBounds_toArray, List.set_cons_zero, List.set_cons_succ]
      refine Held.one 3 #[true, true, true, true, true, false, true, true, true, false, false, false] (by kernel_rfl) (nth_l rfl) (by kernel_rfl) (fun KK hKK => ?_)
      refine step_append_any (P := Tryz.prog) rfl (.tmp 3) (.tmp 5) 23 rfl w.heap.size 5 i0 (.int .u8 0) 1 1 Tryz.underlying23 hi0 hz0 hz1 hz2 rfl (by decide) (.slice (some ⟨G7, 0, none⟩) 0 0) 0 [] rfl O13.out a1 n1 d1 (byteCs e.bytes) rfl (by unfold byteCs; rw [List.length_map, HX.out.2.2.2.2.2.1, Nat.mul_one]) (HX.out.1.no C13.out.fr) (by intro u hu; unfold byteCs at hu; obtain ⟨c, _, rfl⟩ := List.mem_map.1 hu; rfl) (by unfold maxLen; omega) (by omega) C13.out.fr.size ?_
      intro V14 W14 k1 k2
      have C14 := Lib.hid (C13.out.grown O13.out (by decide) k2)
      have O14 : Hid (W14.ownsRow w.heap.size 5 1 V14 n1 (byteCs e.bytes)) := Lib.hid (by rw [Nat.zero_add, List.nil_append] at k1; exact k1)
      have N14 := Lib.hid (N13.out.grown k2 E13.out)
      clear k1 k2
      have s14 := (res_cells C14.out.ev).1.2.2.1
      refine hKK.out _ _ (fun _ => s14) ?_
      clear hKK KK
      try simp only [Act.put, List.setIfInBounds_toArray, List.set_cons_zero, List.set_cons_succ]
      refine Held.one 5 #[true, true, true, true, true, true, true, true, true, false, false, false] (by kernel_rfl) (nth_l rfl) (by kernel_rfl) (fun KK hKK => ?_)
      refine step_append_lies (P := Tryz.prog) _ rfl (.tmp 6) (.tmp 7) 23 rfl w.heap.size 5 i0 (.int .u8 0) 1 1 Tryz.underlying23 hi0 hz0 hz1 hz2 rfl (by decide) V14 n1 (byteCs e.bytes) rfl O14.out ⟨G13, 0, none⟩ 1 1 [.int .u8 165] rfl rfl N14.out.add (by intro u hu; simp at hu; subst hu; rfl) (by decide) (by unfold maxLen; omega) (by omega) C14.out.fr.size _ rfl ?_
      intro G15 cap15 W15 k1 k2 k3 k4
      have C15 := Lib.hid (C14.out.grown O14.out (by decide) k2)
      have O15 := Lib.hid k1
      have hcap15 := own_cap k1
      have hci15 : (n1 : Int) ≤ (cap15 : Int) := by omega
      clear k1 k2 k3 k4
      have s15 := (res_cells C15.out.ev).1.2.2.1
      refine hKK.out _ _ (fun _ => s15) ?_
      clear hKK KK
      try simp only [Act.put, List.setIfInBounds_toArray, List.set_cons_zero, List.set_cons_succ]
      refine Held.take 9 #[true, true, true, true, true, true, true, true, true, true, false, false] (v := ?v9x16) (by kernel_rfl) (nth_l rfl) (by kernel_rfl) (by kernel_rfl) (by kernel_rfl) (by kernel_rfl) ?hQ9x16 ?hy9x16 ?hS9x16 ?rest9x16
      case hQ9x16 => exact fun _ _ _ h => h
      case hy9x16 =>
        refine Or.inl ⟨by rfl, fun w1 hw1 => ?_⟩
        dsimp only at hw1
        go_simp
        try with_reducible rfl
      case hS9x16 => exact s15
      try simp only [Act.put, List.setIfInBounds_toArray, List.set_cons_zero, List.set_cons_succ]
      refine Held.take 10 #[true, true, true, true, true, true, true, true, true, true, true, false] (v := ?v10x17) (by kernel_rfl) (nth_l rfl) (by kernel_rfl) (by kernel_rfl) (by kernel_rfl) (by kernel_rfl) ?hQ10x17 ?hy10x17 ?hS10x17 ?rest10x17
      case hQ10x17 => exact fun _ _ _ h => h
      case hy10x17 =>
        refine Or.inl ⟨by rfl, fun w1 hw1 => ?_⟩
        dsimp only at hw1
        go_simp
        try with_reducible rfl
      case hS10x17 => exact s15
      try simp only [Act.put, List.setIfInBounds_toArray, List.set_cons_zero, List.set_cons_succ]
      have fz15 := (res_cells C15.out.ev).2.2.2.1
      have lt15 := lt_of_block C15.out.ev
      refine Held.one 11 #[true, true, true, true, true, true, true, true, true, true, true, true] (by kernel_rfl) (nth_l rfl) (by kernel_rfl) (fun KK hKK => ?_)
      go_simp
      refine hKK.out _ _ (fun h => absurd rfl h) ?_
      clear hKK KK
      try simp only [Act.put, List.setIfInBounds_toArray, List.set_cons_zero, List.set_cons_succ]
      refine Held.done _ (by kernel_rfl) ?_
      go_wp2_with fail
      go_meet
      exact ⟨_, C15.out.set2 _, Own.kt ⟨G15, cap15, rfl, O15.out⟩ (Kt.set (p := ⟨B, 2, none⟩) C15.out.ev (by decide) _)⟩
  · go_simp
    obtain ⟨W18, hW18⟩ : ∃ W9, W9 = W1.alloc (.cells #[.int .u8 165] 5) := ⟨_, rfl⟩
    obtain ⟨G18, hG18⟩ : ∃ g9, g9 = W1.heap.size := ⟨_, rfl⟩
    rw [← hW18, ← hG18]
    have f18 : Fr No W1 W18 := by rw [hW18]; exact (Fr.refl _ _).alloc _
    have N18 : Hid (Row W18 G18 [.int .u8 165]) := Lib.hid (Row.new (by rw [hW18, hG18]; exact heap_alloc_new _ _))
    have C18 := Lib.hid (C1.out.no f18)
    clear hW18 hG18 f18
    have s18 := (res_cells C18.out.ev).1.2.2.1
    refine hKK.out _ _ (fun _ => s18) ?_
    clear hKK KK
    try simp only [Act.put, List.setIfInBounds_toArray, List.set_cons_zero, List.set_cons_succ]
    refine Held.one 0 #[true, true, true, false, true, false, true, true, true, false, false, false] (by kernel_rfl) (nth_l rfl) (by kernel_rfl) (fun KK hKK => ?_)
    go_simp
    obtain ⟨W19, hW19⟩ : ∃ W9, W9 = W18.alloc (.cells #[] 5) := ⟨_, rfl⟩
    obtain ⟨G19, hG19⟩ : ∃ g9, g9 = W18.heap.size := ⟨_, rfl⟩
    rw [← hW19, ← hG19]
    have f19 : Fr No W18 W19 := by rw [hW19]; exact (Fr.refl _ _).alloc _
    have O19 : Hid (W19.ownsRow w.heap.size 5 1 (.slice (some ⟨G19, 0, none⟩) 0 0) 0 []) := Lib.hid (by rw [hW19, hG19]; exact World.ownsRow_lit _ #[] 0 C18.out.fr.size (by decide) rfl)
    have C19 := Lib.hid (C18.out.no f19)
    have N19 := Lib.hid (N18.out.no f19)
    have E19 : Hid (some G18 ≠ (Value.slice (some ⟨G19, 0, none⟩) 0 0).ownBlock) := Lib.hid (by intro e9; have e8 : G18 = G19 := Option.some.inj e9; have e7 := N18.out.1; omega)
    clear hW19 hG19 f19
    have s19 := (res_cells C19.out.ev).1.2.2.1
    refine hKK.out _ _ (fun _ => s19) ?_
    clear hKK KK
    try simp only [Act.put, List.setIfInBounds_toArray, List.set_cons_zero, List.set_cons_succ]
    refine Held.one 3 #[true, true, true, true, true, false, true, true, true, false, false, false] (by kernel_rfl) (nth_l rfl) (by kernel_rfl) (fun KK hKK => ?_)
    refine step_append_any (P := Tryz.prog) rfl (.tmp 3) (.tmp 5) 23 rfl w.heap.size 5 i0 (.int .u8 0) 1 1 Tryz.underlying23 hi0 hz0 hz1 hz2 rfl (by decide) (.slice (some ⟨G19, 0, none⟩) 0 0) 0 [] rfl O19.out a1 n1 d1 (byteCs e.bytes) rfl (by unfold byteCs; rw [List.length_map, HX.out.2.2.2.2.2.1, Nat.mul_one]) (HX.out.1.no C19.out.fr) (by intro u hu; unfold byteCs at hu; obtain ⟨c, _, rfl⟩ := List.mem_map.1 hu; rfl) (by unfold maxLen; omega) (by omega) C19.out.fr.size ?_
    intro V20 W20 k1 k2
    have C20 := Lib.hid (C19.out.grown O19.out (by decide) k2)
    have O20 : Hid (W20.ownsRow w.heap.size 5 1 V20 n1 (byteCs e.bytes)) := Lib.hid (by rw [Nat.zero_add, List.nil_append] at k1; exact k1)
    have N20 := Lib.hid (N19.out.grown k2 E19.out)
    clear k1 k2
    have s20 := (res_cells C20.out.ev).1.2.2.1
    refine hKK.out _ _ (fun _ => s20) ?_
    clear hKK KK
    try simp only [Act.put, List.setIfInBounds_toArray, List.set_cons_zero, List.set_cons_succ]
    refine Held.one 5 #[true, true, true, true, true, true, true, true, true, false, false, false] (by kernel_rfl) (nth_l rfl) (by kernel_rfl) (fun KK hKK => ?_)
    refine step_append_lies (P := Tryz.prog) _ rfl (.tmp 6) (.tmp 7) 23 rfl w.heap.size 5 i0 (.int .u8 0) 1 1 Tryz.underlying23 hi0 hz0 hz1 hz2 rfl (by decide) V20 n1 (byteCs e.bytes) rfl O20.out ⟨G18, 0, none⟩ 1 1 [.int .u8 165] rfl rfl N20.out.add (by intro u hu; simp at hu; subst hu; rfl) (by decide) (by unfold maxLen; omega) (by omega) C20.out.fr.size _ rfl ?_
    intro G21 cap21 W21 k1 k2 k3 k4
    have C21 := Lib.hid (C20.out.grown O20.out (by decide) k2)
    have O21 := Lib.hid k1
    have hcap21 := own_cap k1
    have hci21 : (n1 : Int) ≤ (cap21 : Int) := by omega
    clear k1 k2 k3 k4
    have s21 := (res_cells C21.out.ev).1.2.2.1
    refine hKK.out _ _ (fun _ => s21) ?_
    clear hKK KK
    try simp only [Act.put, List.setIfInBounds_toArray, List.set_cons_zero, List.set_cons_succ]
    refine Held.take 9 #[true, true, true, true, true, true, true, true, true, true, false, false] (v := ?v9x22) (by kernel_rfl) (nth_l rfl) (by kernel_rfl) (by kernel_rfl) (by kernel_rfl) (by kernel_rfl) ?hQ9x22 ?hy9x22 ?hS9x22 ?rest9x22
    case hQ9x22 => exact fun _ _ _ h => h
    case hy9x22 =>
      refine Or.inl ⟨by rfl, fun w1 hw1 => ?_⟩
      dsimp only at hw1
      go_simp
      try with_reducible rfl
    case hS9x22 => exact s21
    try simp only [Act.put, List.setIfInBounds_toArray, List.set_cons_zero, List.set_cons_succ]
    refine Held.take 10 #[true, true, true, true, true, true, true, true, true, true, true, false] (v := ?v10x23) (by kernel_rfl) (nth_l rfl) (by kernel_rfl) (by kernel_rfl) (by kernel_rfl) (by kernel_rfl) ?hQ10x23 ?hy10x23 ?hS10x23 ?rest10x23
    case hQ10x23 => exact fun _ _ _ h => h
    case hy10x23 =>
      refine Or.inl ⟨by rfl, fun w1 hw1 => ?_⟩
      dsimp only at hw1
      go_simp
      try with_reducible rfl
    case hS10x23 => exact s21
    try simp only [Act.put, List.setIfInBounds_toArray, List.set_cons_zero, List.set_cons_succ]
    have fz21 := (res_cells C21.out.ev).2.2.2.1
    have lt21 := lt_of_block C21.out.ev
    refine Held.one 11 #[true, true, true, true, true, true, true, true, true, true, true, true] (by kernel_rfl) (nth_l rfl) (by kernel_rfl) (fun KK hKK => ?_)
    go_simp
    refine hKK.out _ _ (fun h => absurd rfl h) ?_
    clear hKK KK
    try simp only [Act.put, List.setIfInBounds_toArray, List.set_cons_zero, List.set_cons_succ]
    refine Held.done _ (by kernel_rfl) ?_
    go_wp2_with fail
    go_meet
    exact ⟨_, C21.out.set2 _, Own.kt ⟨G21, cap21, rfl, O21.out⟩ (Kt.set (p := ⟨B, 2, none⟩) C21.out.ev (by decide) _)⟩
  case rest =>
    obtain ⟨v1, hC, hO1⟩ := hcut
    have HC0 := Lib.hid hC
    have HO1 := Lib.hid hO1
    clear hC hO1
    go_upto_region 2 with fail
    go_cut [] (fun wx => ∃ v2, CP w B k cn v1 v2 (.slice a3 n3 d3) wx ∧ Own w 5 1 n1 (byteCs e.bytes ++ [.int .u8 165]) v1 wx ∧ Own w 70 2 n2 (fateCs e.fates ++ [.int .i64 0, .int .i64 77]) v2 wx)
    obtain ⟨i0, hi0, hz0, hz1, hz2⟩ := info_parts infoFate
    refine Held.start 13 #[false, false, false, false, false, false, false, false, false, false, false, false, false] (z := 12) (S := (fun w1 => w1.cell? ⟨B, 3, none⟩ = some (.slice a2 n2 d2))) (by kernel_rfl) (by kernel_rfl) (by kernel_rfl) ?_
    obtain ⟨W24, hW24⟩ : ∃ W9, W9 = wc.drew := ⟨_, rfl⟩
    rw [← hW24]
    have f24 : Fr No wc W24 := by rw [hW24]; exact (Fr.refl _ _).drew
    have C24 := Lib.hid (HC0.out.no f24)
    have A124 := Lib.hid (HO1.out.kt (Kt.ofFr f24))
    have s24 := (res_cells C24.out.ev).1.2.2.2.1
    clear hW24 f24
    refine Held.take 1 #[false, true, false, false, false, false, false, false, false, false, false, false, false] (v := ?v1x25) (by kernel_rfl) (nth_l rfl) (by kernel_rfl) (by kernel_rfl) (by kernel_rfl) (by kernel_rfl) ?hQ1x25 ?hy1x25 ?hS1x25 ?rest1x25
    case hQ1x25 => exact fun _ _ _ h => h
    case hy1x25 =>
      refine Or.inl ⟨by rfl, fun w1 hw1 => ?_⟩
      dsimp only at hw1
      go_simp
      try with_reducible rfl
    case hS1x25 => exact s24
    try simp only [Act.put, List.setIfInBounds_toArray, List.set_cons_zero, List.set_cons_succ]
    refine Held.take 2 #[false, true, true, false, false, false, false, false, false, false, false, false, false] (v := ?v2x26) (by kernel_rfl) (nth_l rfl) (by kernel_rfl) (by kernel_rfl) (by kernel_rfl) (by kernel_rfl) ?hQ2x26 ?hy2x26 ?hS2x26 ?rest2x26
    case hQ2x26 => exact fun _ _ _ h => h
    case hy2x26 =>
      refine Or.inl ⟨by rfl, fun w1 hw1 => ?_⟩
      dsimp only at hw1
      go_simp
      try with_reducible rfl
    case hS2x26 => exact s24
    try simp only [Act.put, List.setIfInBounds_toArray, List.set_cons_zero, List.set_cons_succ]
    refine Held.take 7 #[false, true, true, false, false, false, false, true, false, false, false, false, false] (v := ?v7x27) (by kernel_rfl) (nth_l rfl) (by kernel_rfl) (by kernel_rfl) (by kernel_rfl) (by kernel_rfl) ?hQ7x27 ?hy7x27 ?hS7x27 ?rest7x27
    case hQ7x27 => exact fun _ _ _ h => h
    case hy7x27 =>
      refine Or.inl ⟨by rfl, fun w1 hw1 => ?_⟩
      dsimp only at hw1
      go_simp
      try with_reducible rfl
    case hS7x27 => exact s24
    try simp only [Act.put, List.setIfInBounds_toArray, List.set_cons_zero, List.set_cons_succ]
    refine Held.take 8 #[false, true, true, false, false, false, false, true, true, false, false, false, false] (v := ?v8x28) (by kernel_rfl) (nth_l rfl) (by kernel_rfl) (by kernel_rfl) (by kernel_rfl) (by kernel_rfl) ?hQ8x28 ?hy8x28 ?hS8x28 ?rest8x28
    case hQ8x28 => exact fun _ _ _ h => h
    case hy8x28 =>
      refine Or.inl ⟨by rfl, fun w1 hw1 => ?_⟩
      dsimp only at hw1
      go_simp
      try with_reducible rfl
    case hS8x28 => exact s24
    try simp only [Act.put, List.setIfInBounds_toArray, List.set_cons_zero, List.set_cons_succ]
    refine Held.take 9 #[false, true, true, false, false, false, false, true, true, true, false, false, false] (v := ?v9x29) (by kernel_rfl) (nth_l rfl) (by kernel_rfl) (by kernel_rfl) (by kernel_rfl) (by kernel_rfl) ?hQ9x29 ?hy9x29 ?hS9x29 ?rest9x29
    case hQ9x29 => exact fun _ _ _ h => h
    case hy9x29 =>
      refine Or.inl ⟨by rfl, fun w1 hw1 => ?_⟩
      dsimp only at hw1
      go_simp
      try with_reducible rfl
    case hS9x29 => exact s24
    try simp only [Act.put, List.setIfInBounds_toArray, List.set_cons_zero, List.set_cons_succ]
    refine Held.take 4 #[false, true, true, false, true, false, false, true, true, true, false, false, false] (v := ?v4x30) (by kernel_rfl) (nth_l rfl) (by kernel_rfl) (by kernel_rfl) (by kernel_rfl) (by kernel_rfl) ?hQ4x30 ?hy4x30 ?hS4x30 ?rest4x30
    case hQ4x30 => exact fun _ _ _ h => h
    case hy4x30 =>
      refine Or.inl ⟨by rfl, fun w1 hw1 => ?_⟩
      dsimp only at hw1
      go_simp
      try with_reducible rfl
    case hS4x30 => exact s24
    try simp only [Act.put, List.setIfInBounds_toArray, List.set_cons_zero, List.set_cons_succ]
    refine Held.two 0 5 #[true, true, true, false, true, false, false, true, true, true, false, false, false] #[false, true, true, false, true, true, false, true, true, true, false, false, false] (by kernel_rfl) (by kernel_rfl) (nth_l rfl) (nth_l rfl) (by kernel_rfl) (fun KK hKK => ?_) (fun KK hKK => ?_)
    · go_simp
      obtain ⟨W31, hW31⟩ : ∃ W9, W9 = W24.alloc (.cells #[] 70) := ⟨_, rfl⟩
      obtain ⟨G31, hG31⟩ : ∃ g9, g9 = W24.heap.size := ⟨_, rfl⟩
      rw [← hW31, ← hG31]
      have f31 : Fr No W24 W31 := by rw [hW31]; exact (Fr.refl _ _).alloc _
      have O31 : Hid (W31.ownsRow w.heap.size 70 2 (.slice (some ⟨G31, 0, none⟩) 0 0) 0 []) := Lib.hid (by rw [hW31, hG31]; exact World.ownsRow_lit _ #[] 0 C24.out.fr.size (by decide) rfl)
      have C31 := Lib.hid (C24.out.no f31)
      have A131 := Lib.hid (A124.out.kt (Kt.ofFr f31))
      clear hW31 hG31 f31
      have s31 := (res_cells C31.out.ev).1.2.2.2.1
      refine hKK.out _ _ (fun _ => s31) ?_
      clear hKK KK
      try simp only [Act.put, List.setIfInBounds_toArray, List.set_cons_zero, List.set_cons_succ]
      refine Held.two 3 5 #[true, true, true, true, true, false, false, true, true, true, false, false, false] #[true, true, true, false, true, true, false, true, true, true, false, false, false] (by kernel_rfl) (by kernel_rfl) (nth_l rfl) (nth_l rfl) (by kernel_rfl) (fun KK hKK => ?_) (fun KK hKK => ?_)
      · refine step_append_any (P := Tryz.prog) rfl (.tmp 14) (.tmp 16) 24 rfl w.heap.size 70 i0 (.agg #[.int .i64 0, .int .i64 0]) 2 16 Tryz.underlying24 hi0 hz0 hz1 hz2 rfl (by decide) (.slice (some ⟨G31, 0, none⟩) 0 0) 0 [] rfl O31.out a2 n2 d2 (fateCs e.fates) rfl (by rw [fateCs_len, HX.out.2.2.2.2.2.2.1]) (HX.out.2.1.no C31.out.fr) (fateCs_one e.fates) (by unfold maxLen; omega) (by omega) C31.out.fr.size ?_
        intro V32 W32 k1 k2
        have C32 := Lib.hid (C31.out.grown O31.out (by decide) k2)
        have O32 : Hid (W32.ownsRow w.heap.size 70 2 V32 n2 (fateCs e.fates)) := Lib.hid (by rw [Nat.zero_add, List.nil_append] at k1; exact k1)
        have A132 := Lib.hid (A131.out.kt (Kt.grown O31.out k2 (by decide)))
        clear k1 k2
        have s32 := (res_cells C32.out.ev).1.2.2.2.1
        refine hKK.out _ _ (fun _ => s32) ?_
        clear hKK KK
        try simp only [Act.put, List.setIfInBounds_toArray, List.set_cons_zero, List.set_cons_succ]
        refine Held.one 5 #[true, true, true, true, true, true, false, true, true, true, false, false, false] (by kernel_rfl) (nth_l rfl) (by kernel_rfl) (fun KK hKK => ?_)
        go_simp
        obtain ⟨W33, hW33⟩ : ∃ W9, W9 = W32.alloc (.cells #[.int .i64 0, .int .i64 77] 70) := ⟨_, rfl⟩
        obtain ⟨G33, hG33⟩ : ∃ g9, g9 = W32.heap.size := ⟨_, rfl⟩
        rw [← hW33, ← hG33]
        have f33 : Fr No W32 W33 := by rw [hW33]; exact (Fr.refl _ _).alloc _
        have N33 : Hid (Row W33 G33 [.int .i64 0, .int .i64 77]) := Lib.hid (Row.new (by rw [hW33, hG33]; exact heap_alloc_new _ _))
        have C33 := Lib.hid (C32.out.no f33)
        have A133 := Lib.hid (A132.out.kt (Kt.ofFr f33))
        have O33 := Lib.hid ((Kt.ofFr f33).owns O32.out)
        clear hW33 hG33 f33
        have s33 := (res_cells C33.out.ev).1.2.2.2.1
        refine hKK.out _ _ (fun _ => s33) ?_
        clear hKK KK
        try simp only [Act.put, List.setIfInBounds_toArray, List.set_cons_zero, List.set_cons_succ]
        refine Held.one 6 #[true, true, true, true, true, true, true, true, true, true, false, false, false] (by kernel_rfl) (nth_l rfl) (by kernel_rfl) (fun KK hKK => ?_)
        refine step_append_lies (P := Tryz.prog) _ rfl (.tmp 17) (.tmp 19) 24 rfl w.heap.size 70 i0 (.agg #[.int .i64 0, .int .i64 0]) 2 16 Tryz.underlying24 hi0 hz0 hz1 hz2 rfl (by decide) V32 n2 (fateCs e.fates) rfl O33.out ⟨G33, 0, none⟩ 1 1 [.int .i64 0, .int .i64 77] rfl rfl N33.out.add (by intro u hu; simp at hu; rcases hu with rfl | rfl <;> rfl) (by decide) (by unfold maxLen; omega) (by omega) C33.out.fr.size _ rfl ?_
        intro G34 cap34 W34 k1 k2 k3 k4
        have C34 := Lib.hid (C33.out.grown O33.out (by decide) k2)
        have O34 := Lib.hid k1
        have hcap34 := own_cap k1
        have hci34 : (n2 : Int) ≤ (cap34 : Int) := by omega
        have A134 := Lib.hid (A133.out.kt (Kt.grown O33.out k2 (by decide)))
        clear k1 k2 k3 k4
        have s34 := (res_cells C34.out.ev).1.2.2.2.1
        refine hKK.out _ _ (fun _ => s34) ?_
        clear hKK KK
        try simp only [Act.put, List.setIfInBounds_toArray, List.set_cons_zero, List.set_cons_succ]
        refine Held.take 10 #[true, true, true, true, true, true, true, true, true, true, true, false, false] (v := ?v10x35) (by kernel_rfl) (nth_l rfl) (by kernel_rfl) (by kernel_rfl) (by kernel_rfl) (by kernel_rfl) ?hQ10x35 ?hy10x35 ?hS10x35 ?rest10x35
        case hQ10x35 => exact fun _ _ _ h => h
        case hy10x35 =>
          refine Or.inl ⟨by rfl, fun w1 hw1 => ?_⟩
          dsimp only at hw1
          go_simp
          try with_reducible rfl
        case hS10x35 => exact s34
        try simp only [Act.put, List.setIfInBounds_toArray, List.set_cons_zero, List.set_cons_succ]
        refine Held.take 11 #[true, true, true, true, true, true, true, true, true, true, true, true, false] (v := ?v11x36) (by kernel_rfl) (nth_l rfl) (by kernel_rfl) (by kernel_rfl) (by kernel_rfl) (by kernel_rfl) ?hQ11x36 ?hy11x36 ?hS11x36 ?rest11x36
        case hQ11x36 => exact fun _ _ _ h => h
        case hy11x36 =>
          refine Or.inl ⟨by rfl, fun w1 hw1 => ?_⟩
          dsimp only at hw1
          go_simp
          try with_reducible rfl
        case hS11x36 => exact s34
        try simp only [Act.put, List.setIfInBounds_toArray, List.set_cons_zero, List.set_cons_succ]
        have fz34 := (res_cells C34.out.ev).2.2.2.2.1
        have lt34 := lt_of_block C34.out.ev
        refine Held.one 12 #[true, true, true, true, true, true, true, true, true, true, true, true, true] (by kernel_rfl) (nth_l rfl) (by kernel_rfl) (fun KK hKK => ?_)
        go_simp
        refine hKK.out _ _ (fun h => absurd rfl h) ?_
        clear hKK KK
        try simp only [Act.put, List.setIfInBounds_toArray, List.set_cons_zero, List.set_cons_succ]
        refine Held.done _ (by kernel_rfl) ?_
        go_wp2_with fail
        go_meet
        exact ⟨_, C34.out.set3 _, A134.out.kt (Kt.set (p := ⟨B, 3, none⟩) C34.out.ev (by decide) _), Own.kt ⟨G34, cap34, rfl, O34.out⟩ (Kt.set (p := ⟨B, 3, none⟩) C34.out.ev (by decide) _)⟩
      · go_simp
        obtain ⟨W37, hW37⟩ : ∃ W9, W9 = W31.alloc (.cells #[.int .i64 0, .int .i64 77] 70) := ⟨_, rfl⟩
        obtain ⟨G37, hG37⟩ : ∃ g9, g9 = W31.heap.size := ⟨_, rfl⟩
        rw [← hW37, ← hG37]
        have f37 : Fr No W31 W37 := by rw [hW37]; exact (Fr.refl _ _).alloc _
        have N37 : Hid (Row W37 G37 [.int .i64 0, .int .i64 77]) := Lib.hid (Row.new (by rw [hW37, hG37]; exact heap_alloc_new _ _))
        have C37 := Lib.hid (C31.out.no f37)
        have A137 := Lib.hid (A131.out.kt (Kt.ofFr f37))
        have O37 := Lib.hid ((Kt.ofFr f37).owns O31.out)
        have E37 : Hid (some G37 ≠ (Value.slice (some ⟨G31, 0, none⟩) 0 0).ownBlock) := Lib.hid (by intro e9; have e8 : G37 = G31 := Option.some.inj e9; have e7 := (World.ownsRow.lt O31.out G31 rfl).2; omega)
        clear hW37 hG37 f37
        have s37 := (res_cells C37.out.ev).1.2.2.2.1
        refine hKK.out _ _ (fun _ => s37) ?_
        clear hKK KK
        try simp only [Act.put, List.setIfInBounds_toArray, List.set_cons_zero, List.set_cons_succ]
        refine Held.one 3 #[true, true, true, true, true, true, false, true, true, true, false, false, false] (by kernel_rfl) (nth_l rfl) (by kernel_rfl) (fun KK hKK => ?_)
        refine step_append_any (P := Tryz.prog) rfl (.tmp 14) (.tmp 16) 24 rfl w.heap.size 70 i0 (.agg #[.int .i64 0, .int .i64 0]) 2 16 Tryz.underlying24 hi0 hz0 hz1 hz2 rfl (by decide) (.slice (some ⟨G31, 0, none⟩) 0 0) 0 [] rfl O37.out a2 n2 d2 (fateCs e.fates) rfl (by rw [fateCs_len, HX.out.2.2.2.2.2.2.1]) (HX.out.2.1.no C37.out.fr) (fateCs_one e.fates) (by unfold maxLen; omega) (by omega) C37.out.fr.size ?_
        intro V38 W38 k1 k2
        have C38 := Lib.hid (C37.out.grown O37.out (by decide) k2)
        have O38 : Hid (W38.ownsRow w.heap.size 70 2 V38 n2 (fateCs e.fates)) := Lib.hid (by rw [Nat.zero_add, List.nil_append] at k1; exact k1)
        have A138 := Lib.hid (A137.out.kt (Kt.grown O37.out k2 (by decide)))
        have N38 := Lib.hid (N37.out.grown k2 E37.out)
        clear k1 k2
        have s38 := (res_cells C38.out.ev).1.2.2.2.1
        refine hKK.out _ _ (fun _ => s38) ?_
        clear hKK KK
        try simp only [Act.put, List.setIfInBounds_toArray, List.set_cons_zero, List.set_cons_succ]
        refine Held.one 6 #[true, true, true, true, true, true, true, true, true, true, false, false, false] (by kernel_rfl) (nth_l rfl) (by kernel_rfl) (fun KK hKK => ?_)
        refine step_append_lies (P := Tryz.prog) _ rfl (.tmp 17) (.tmp 19) 24 rfl w.heap.size 70 i0 (.agg #[.int .i64 0, .int .i64 0]) 2 16 Tryz.underlying24 hi0 hz0 hz1 hz2 rfl (by decide) V38 n2 (fateCs e.fates) rfl O38.out ⟨G37, 0, none⟩ 1 1 [.int .i64 0, .int .i64 77] rfl rfl N38.out.add (by intro u hu; simp at hu; rcases hu with rfl | rfl <;> rfl) (by decide) (by unfold maxLen; omega) (by omega) C38.out.fr.size _ rfl ?_
        intro G39 cap39 W39 k1 k2 k3 k4
        have C39 := Lib.hid (C38.out.grown O38.out (by decide) k2)
        have O39 := Lib.hid k1
        have hcap39 := own_cap k1
        have hci39 : (n2 : Int) ≤ (cap39 : Int) := by omega
        have A139 := Lib.hid (A138.out.kt (Kt.grown O38.out k2 (by decide)))
        clear k1 k2 k3 k4
        have s39 := (res_cells C39.out.ev).1.2.2.2.1
        refine hKK.out _ _ (fun _ => s39) ?_
        clear hKK KK
        try simp only [Act.put, List.setIfInBounds_toArray, List.set_cons_zero, List.set_cons_succ]
        refine Held.take 10 #[true, true, true, true, true, true, true, true, true, true, true, false, false] (v := ?v10x40) (by kernel_rfl) (nth_l rfl) (by kernel_rfl) (by kernel_rfl) (by kernel_rfl) (by kernel_rfl) ?hQ10x40 ?hy10x40 ?hS10x40 ?rest10x40
        case hQ10x40 => exact fun _ _ _ h => h
        case hy10x40 =>
          refine Or.inl ⟨by rfl, fun w1 hw1 => ?_⟩
          dsimp only at hw1
          go_simp
          try with_reducible rfl
        case hS10x40 => exact s39
        try simp only [Act.put, List.setIfInBounds_toArray, List.set_cons_zero, List.set_cons_succ]
        refine Held.take 11 #[true, true, true, true, true, true, true, true, true, true, true, true, false] (v := ?v11x41) (by kernel_rfl) (nth_l rfl) (by kernel_rfl) (by kernel_rfl) (by kernel_rfl) (by kernel_rfl) ?hQ11x41 ?hy11x41 ?hS11x41 ?rest11x41
        case hQ11x41 => exact fun _ _ _ h => h
        case hy11x41 =>
          refine Or.inl ⟨by rfl, fun w1 hw1 => ?_⟩
          dsimp only at hw1
          go_simp
          try with_reducible rfl
        case hS11x41 => exact s39
        try simp only [Act.put, List.setIfInBounds_toArray, List.set_cons_zero, List.set_cons_succ]
        have fz39 := (res_cells C39.out.ev).2.2.2.2.1
        have lt39 := lt_of_block C39.out.ev
        refine Held.one 12 #[true, true, true, true, true, true, true, true, true, true, true, true, true] (by kernel_rfl) (nth_l rfl) (by kernel_rfl) (fun KK hKK => ?_)
        go_simp
        refine hKK.out _ _ (fun h => absurd rfl h) ?_
        clear hKK KK
        try simp only [Act.put, List.setIfInBounds_toArray, List.set_cons_zero, List.set_cons_succ]
        refine Held.done _ (by kernel_rfl) ?_
        go_wp2_with fail
        go_meet
        exact ⟨_, C39.out.set3 _, A139.out.kt (Kt.set (p := ⟨B, 3, none⟩) C39.out.ev (by decide) _), Own.kt ⟨G39, cap39, rfl, O39.out⟩ (Kt.set (p := ⟨B, 3, none⟩) C39.out.ev (by decide) _)⟩
    · go_simp
      obtain ⟨W42, hW42⟩ : ∃ W9, W9 = W24.alloc (.cells #[.int .i64 0, .int .i64 77] 70) := ⟨_, rfl⟩
      obtain ⟨G42, hG42⟩ : ∃ g9, g9 = W24.heap.size := ⟨_, rfl⟩
      rw [← hW42, ← hG42]
      have f42 : Fr No W24 W42 := by rw [hW42]; exact (Fr.refl _ _).alloc _
      have N42 : Hid (Row W42 G42 [.int .i64 0, .int .i64 77]) := Lib.hid (Row.new (by rw [hW42, hG42]; exact heap_alloc_new _ _))
      have C42 := Lib.hid (C24.out.no f42)
      have A142 := Lib.hid (A124.out.kt (Kt.ofFr f42))
      clear hW42 hG42 f42
      have s42 := (res_cells C42.out.ev).1.2.2.2.1
      refine hKK.out _ _ (fun _ => s42) ?_
      clear hKK KK
      try simp only [Act.put, List.setIfInBounds_toArray, List.set_cons_zero, List.set_cons_succ]
      refine Held.one 0 #[true, true, true, false, true, true, false, true, true, true, false, false, false] (by kernel_rfl) (nth_l rfl) (by kernel_rfl) (fun KK hKK => ?_)
      go_simp
      obtain ⟨W43, hW43⟩ : ∃ W9, W9 = W42.alloc (.cells #[] 70) := ⟨_, rfl⟩
      obtain ⟨G43, hG43⟩ : ∃ g9, g9 = W42.heap.size := ⟨_, rfl⟩
      rw [← hW43, ← hG43]
      have f43 : Fr No W42 W43 := by rw [hW43]; exact (Fr.refl _ _).alloc _
      have O43 : Hid (W43.ownsRow w.heap.size 70 2 (.slice (some ⟨G43, 0, none⟩) 0 0) 0 []) := Lib.hid (by rw [hW43, hG43]; exact World.ownsRow_lit _ #[] 0 C42.out.fr.size (by decide) rfl)
      have C43 := Lib.hid (C42.out.no f43)
      have A143 := Lib.hid (A142.out.kt (Kt.ofFr f43))
      have N43 := Lib.hid (N42.out.no f43)
      have E43 : Hid (some G42 ≠ (Value.slice (some ⟨G43, 0, none⟩) 0 0).ownBlock) := Lib.hid (by intro e9; have e8 : G42 = G43 := Option.some.inj e9; have e7 := N42.out.1; omega)
      clear hW43 hG43 f43
      have s43 := (res_cells C43.out.ev).1.2.2.2.1
      refine hKK.out _ _ (fun _ => s43) ?_
      clear hKK KK
      try simp only [Act.put, List.setIfInBounds_toArray, List.set_cons_zero, List.set_cons_succ]
      refine Held.one 3 #[true, true, true, true, true, true, false, true, true, true, false, false, false] (by kernel_rfl) (nth_l rfl) (by kernel_rfl) (fun KK hKK => ?_)
      refine step_append_any (P := Tryz.prog) rfl (.tmp 14) (.tmp 16) 24 rfl w.heap.size 70 i0 (.agg #[.int .i64 0, .int .i64 0]) 2 16 Tryz.underlying24 hi0 hz0 hz1 hz2 rfl (by decide) (.slice (some ⟨G43, 0, none⟩) 0 0) 0 [] rfl O43.out a2 n2 d2 (fateCs e.fates) rfl (by rw [fateCs_len, HX.out.2.2.2.2.2.2.1]) (HX.out.2.1.no C43.out.fr) (fateCs_one e.fates) (by unfold maxLen; omega) (by omega) C43.out.fr.size ?_
      intro V44 W44 k1 k2
      have C44 := Lib.hid (C43.out.grown O43.out (by decide) k2)
      have O44 : Hid (W44.ownsRow w.heap.size 70 2 V44 n2 (fateCs e.fates)) := Lib.hid (by rw [Nat.zero_add, List.nil_append] at k1; exact k1)
      have A144 := Lib.hid (A143.out.kt (Kt.grown O43.out k2 (by decide)))
      have N44 := Lib.hid (N43.out.grown k2 E43.out)
      clear k1 k2
      have s44 := (res_cells C44.out.ev).1.2.2.2.1
      refine hKK.out _ _ (fun _ => s44) ?_
      clear hKK KK
      try simp only [Act.put, List.setIfInBounds_toArray, List.set_cons_zero, List.set_cons_succ]
      refine Held.one 6 #[true, true, true, true, true, true, true, true, true, true, false, false, false] (by kernel_rfl) (nth_l rfl) (by kernel_rfl) (fun KK hKK => ?_)
      refine step_append_lies (P := Tryz.prog) _ rfl (.tmp 17) (.tmp 19) 24 rfl w.heap.size 70 i0 (.agg #[.int .i64 0, .int .i64 0]) 2 16 Tryz.underlying24 hi0 hz0 hz1 hz2 rfl (by decide) V44 n2 (fateCs e.fates) rfl O44.out ⟨G42, 0, none⟩ 1 1 [.int .i64 0, .int .i64 77] rfl rfl N44.out.add (by intro u hu; simp at hu; rcases hu with rfl | rfl <;> rfl) (by decide) (by unfold maxLen; omega) (by omega) C44.out.fr.size _ rfl ?_
      intro G45 cap45 W45 k1 k2 k3 k4
      have C45 := Lib.hid (C44.out.grown O44.out (by decide) k2)
      have O45 := Lib.hid k1
      have hcap45 := own_cap k1
      have hci45 : (n2 : Int) ≤ (cap45 : Int) := by omega
      have A145 := Lib.hid (A144.out.kt (Kt.grown O44.out k2 (by decide)))
      clear k1 k2 k3 k4
      have s45 := (res_cells C45.out.ev).1.2.2.2.1
      refine hKK.out _ _ (fun _ => s45) ?_
      clear hKK KK
      try simp only [Act.put, List.setIfInBounds_toArray, List.set_cons_zero, List.set_cons_succ]
      refine Held.take 10 #[true, true, true, true, true, true, true, true, true, true, true, false, false] (v := ?v10x46) (by kernel_rfl) (nth_l rfl) (by kernel_rfl) (by kernel_rfl) (by kernel_rfl) (by kernel_rfl) ?hQ10x46 ?hy10x46 ?hS10x46 ?rest10x46
      case hQ10x46 => exact fun _ _ _ h => h
      case hy10x46 =>
        refine Or.inl ⟨by rfl, fun w1 hw1 => ?_⟩
        dsimp only at hw1
        go_simp
        try with_reducible rfl
      case hS10x46 => exact s45
      try simp only [Act.put, List.setIfInBounds_toArray, List.set_cons_zero, List.set_cons_succ]
      refine Held.take 11 #[true, true, true, true, true, true, true, true, true, true, true, true, false] (v := ?v11x47) (by kernel_rfl) (nth_l rfl) (by kernel_rfl) (by kernel_rfl) (by kernel_rfl) (by kernel_rfl) ?hQ11x47 ?hy11x47 ?hS11x47 ?rest11x47
      case hQ11x47 => exact fun _ _ _ h => h
      case hy11x47 =>
        refine Or.inl ⟨by rfl, fun w1 hw1 => ?_⟩
        dsimp only at hw1
        go_simp
        try with_reducible rfl
      case hS11x47 => exact s45
      try simp only [Act.put, List.setIfInBounds_toArray, List.set_cons_zero, List.set_cons_succ]
      have fz45 := (res_cells C45.out.ev).2.2.2.2.1
      have lt45 := lt_of_block C45.out.ev
      refine Held.one 12 #[true, true, true, true, true, true, true, true, true, true, true, true, true] (by kernel_rfl) (nth_l rfl) (by kernel_rfl) (fun KK hKK => ?_)
      go_simp
      refine hKK.out _ _ (fun h => absurd rfl h) ?_
      clear hKK KK
      try simp only [Act.put, List.setIfInBounds_toArray, List.set_cons_zero, List.set_cons_succ]
      refine Held.done _ (by kernel_rfl) ?_
      go_wp2_with fail
      go_meet
      exact ⟨_, C45.out.set3 _, A145.out.kt (Kt.set (p := ⟨B, 3, none⟩) C45.out.ev (by decide) _), Own.kt ⟨G45, cap45, rfl, O45.out⟩ (Kt.set (p := ⟨B, 3, none⟩) C45.out.ev (by decide) _)⟩
    case rest =>
      obtain ⟨v2, hC, hO1, hO2⟩ := hcut
      clear HC0 HO1
      have HC0 := Lib.hid hC
      have HO1 := Lib.hid hO1
      have HO2 := Lib.hid hO2
      clear hC hO1 hO2
      go_upto_region 3 with fail
      go_cut [] (fun wx => ∃ v3, CP w B k cn v1 v2 v3 wx ∧ Own w 5 1 n1 (byteCs e.bytes ++ [.int .u8 165]) v1 wx ∧ Own w 70 2 n2 (fateCs e.fates ++ [.int .i64 0, .int .i64 77]) v2 wx ∧ Own w 3 1 n3 (intCs e.picks ++ [.int .i64 77]) v3 wx)
      obtain ⟨i0, hi0, hz0, hz1, hz2⟩ := info_parts infoInt
      refine Held.start 12 #[false, false, false, false, false, false, false, false, false, false, false, false] (z := 11) (S := (fun w1 => w1.cell? ⟨B, 4, none⟩ = some (.slice a3 n3 d3))) (by kernel_rfl) (by kernel_rfl) (by kernel_rfl) ?_
      obtain ⟨W48, hW48⟩ : ∃ W9, W9 = wc.drew := ⟨_, rfl⟩
      rw [← hW48]
      have f48 : Fr No wc W48 := by rw [hW48]; exact (Fr.refl _ _).drew
      have C48 := Lib.hid (HC0.out.no f48)
      have A148 := Lib.hid (HO1.out.kt (Kt.ofFr f48))
      have A248 := Lib.hid (HO2.out.kt (Kt.ofFr f48))
      have s48 := (res_cells C48.out.ev).1.2.2.2.2
      clear hW48 f48
      refine Held.take 1 #[false, true, false, false, false, false, false, false, false, false, false, false] (v := ?v1x49) (by kernel_rfl) (nth_l rfl) (by kernel_rfl) (by kernel_rfl) (by kernel_rfl) (by kernel_rfl) ?hQ1x49 ?hy1x49 ?hS1x49 ?rest1x49
      case hQ1x49 => exact fun _ _ _ h => h
      case hy1x49 =>
        refine Or.inl ⟨by rfl, fun w1 hw1 => ?_⟩
        dsimp only at hw1
        go_simp
        try with_reducible rfl
      case hS1x49 => exact s48
      try simp only [Act.put, List.setIfInBounds_toArray, List.set_cons_zero, List.set_cons_succ]
      refine Held.take 2 #[false, true, true, false, false, false, false, false, false, false, false, false] (v := ?v2x50) (by kernel_rfl) (nth_l rfl) (by kernel_rfl) (by kernel_rfl) (by kernel_rfl) (by kernel_rfl) ?hQ2x50 ?hy2x50 ?hS2x50 ?rest2x50
      case hQ2x50 => exact fun _ _ _ h => h
      case hy2x50 =>
        refine Or.inl ⟨by rfl, fun w1 hw1 => ?_⟩
        dsimp only at hw1
        go_simp
        try with_reducible rfl
      case hS2x50 => exact s48
      try simp only [Act.put, List.setIfInBounds_toArray, List.set_cons_zero, List.set_cons_succ]
      refine Held.take 6 #[false, true, true, false, false, false, true, false, false, false, false, false] (v := ?v6x51) (by kernel_rfl) (nth_l rfl) (by kernel_rfl) (by kernel_rfl) (by kernel_rfl) (by kernel_rfl) ?hQ6x51 ?hy6x51 ?hS6x51 ?rest6x51
      case hQ6x51 => exact fun _ _ _ h => h
      case hy6x51 =>
        refine Or.inl ⟨by rfl, fun w1 hw1 => ?_⟩
        dsimp only at hw1
        go_simp
        try with_reducible rfl
      case hS6x51 => exact s48
      try simp only [Act.put, List.setIfInBounds_toArray, List.set_cons_zero, List.set_cons_succ]
      refine Held.take 7 #[false, true, true, false, false, false, true, true, false, false, false, false] (v := ?v7x52) (by kernel_rfl) (nth_l rfl) (by kernel_rfl) (by kernel_rfl) (by kernel_rfl) (by kernel_rfl) ?hQ7x52 ?hy7x52 ?hS7x52 ?rest7x52
      case hQ7x52 => exact fun _ _ _ h => h
      case hy7x52 =>
        refine Or.inl ⟨by rfl, fun w1 hw1 => ?_⟩
        dsimp only at hw1
        go_simp
        try with_reducible rfl
      case hS7x52 => exact s48
      try simp only [Act.put, List.setIfInBounds_toArray, List.set_cons_zero, List.set_cons_succ]
      refine Held.take 8 #[false, true, true, false, false, false, true, true, true, false, false, false] (v := ?v8x53) (by kernel_rfl) (nth_l rfl) (by kernel_rfl) (by kernel_rfl) (by kernel_rfl) (by kernel_rfl) ?hQ8x53 ?hy8x53 ?hS8x53 ?rest8x53
      case hQ8x53 => exact fun _ _ _ h => h
      case hy8x53 =>
        refine Or.inl ⟨by rfl, fun w1 hw1 => ?_⟩
        dsimp only at hw1
        go_simp
        try with_reducible rfl
      case hS8x53 => exact s48
      try simp only [Act.put, List.setIfInBounds_toArray, List.set_cons_zero, List.set_cons_succ]
      refine Held.two 0 4 #[true, true, true, false, false, false, true, true, true, false, false, false] #[false, true, true, false, true, false, true, true, true, false, false, false] (by kernel_rfl) (by kernel_rfl) (nth_l rfl) (nth_l rfl) (by kernel_rfl) (fun KK hKK => ?_) (fun KK hKK => ?_)
      · go_simp
        obtain ⟨W54, hW54⟩ : ∃ W9, W9 = W48.alloc (.cells #[] 3) := ⟨_, rfl⟩
        obtain ⟨G54, hG54⟩ : ∃ g9, g9 = W48.heap.size := ⟨_, rfl⟩
        rw [← hW54, ← hG54]
        have f54 : Fr No W48 W54 := by rw [hW54]; exact (Fr.refl _ _).alloc _
        have O54 : Hid (W54.ownsRow w.heap.size 3 1 (.slice (some ⟨G54, 0, none⟩) 0 0) 0 []) := Lib.hid (by rw [hW54, hG54]; exact World.ownsRow_lit _ #[] 0 C48.out.fr.size (by decide) rfl)
        have C54 := Lib.hid (C48.out.no f54)
        have A154 := Lib.hid (A148.out.kt (Kt.ofFr f54))
        have A254 := Lib.hid (A248.out.kt (Kt.ofFr f54))
        clear hW54 hG54 f54
        have s54 := (res_cells C54.out.ev).1.2.2.2.2
        refine hKK.out _ _ (fun _ => s54) ?_
        clear hKK KK
        try simp only [Act.put, List.setIfInBounds_toArray, List.set_cons_zero, List.set_cons_succ]
        refine Held.two 3 4 #[true, true, true, true, false, false, true, true, true, false, false, false] #[true, true, true, false, true, false, true, true, true, false, false, false] (by kernel_rfl) (by kernel_rfl) (nth_l rfl) (nth_l rfl) (by kernel_rfl) (fun KK hKK => ?_) (fun KK hKK => ?_)
        · refine step_append_any (P := Tryz.prog) rfl (.tmp 26) (.tmp 28) 25 rfl w.heap.size 3 i0 (.int .i64 0) 1 8 Tryz.underlying25 hi0 hz0 hz1 hz2 rfl (by decide) (.slice (some ⟨G54, 0, none⟩) 0 0) 0 [] rfl O54.out a3 n3 d3 (intCs e.picks) rfl (by unfold intCs; rw [List.length_map, HX.out.2.2.2.2.2.2.2, Nat.mul_one]) (HX.out.2.2.1.no C54.out.fr) (by intro u hu; unfold intCs at hu; obtain ⟨c, _, rfl⟩ := List.mem_map.1 hu; rfl) (by unfold maxLen; omega) (by omega) C54.out.fr.size ?_
          intro V55 W55 k1 k2
          have C55 := Lib.hid (C54.out.grown O54.out (by decide) k2)
          have O55 : Hid (W55.ownsRow w.heap.size 3 1 V55 n3 (intCs e.picks)) := Lib.hid (by rw [Nat.zero_add, List.nil_append] at k1; exact k1)
          have A155 := Lib.hid (A154.out.kt (Kt.grown O54.out k2 (by decide)))
          have A255 := Lib.hid (A254.out.kt (Kt.grown O54.out k2 (by decide)))
          clear k1 k2
          have s55 := (res_cells C55.out.ev).1.2.2.2.2
          refine hKK.out _ _ (fun _ => s55) ?_
          clear hKK KK
          try simp only [Act.put, List.setIfInBounds_toArray, List.set_cons_zero, List.set_cons_succ]
          refine Held.one 4 #[true, true, true, true, true, false, true, true, true, false, false, false] (by kernel_rfl) (nth_l rfl) (by kernel_rfl) (fun KK hKK => ?_)
          go_simp
          obtain ⟨W56, hW56⟩ : ∃ W9, W9 = W55.alloc (.cells #[.int .i64 77] 3) := ⟨_, rfl⟩
          obtain ⟨G56, hG56⟩ : ∃ g9, g9 = W55.heap.size := ⟨_, rfl⟩
          rw [← hW56, ← hG56]
          have f56 : Fr No W55 W56 := by rw [hW56]; exact (Fr.refl _ _).alloc _
          have N56 : Hid (Row W56 G56 [.int .i64 77]) := Lib.hid (Row.new (by rw [hW56, hG56]; exact heap_alloc_new _ _))
          have C56 := Lib.hid (C55.out.no f56)
          have A156 := Lib.hid (A155.out.kt (Kt.ofFr f56))
          have A256 := Lib.hid (A255.out.kt (Kt.ofFr f56))
          have O56 := Lib.hid ((Kt.ofFr f56).owns O55.out)
          clear hW56 hG56 f56
          have s56 := (res_cells C56.out.ev).1.2.2.2.2
          refine hKK.out _ _ (fun _ => s56) ?_
          clear hKK KK
          try simp only [Act.put, List.setIfInBounds_toArray, List.set_cons_zero, List.set_cons_succ]
          refine Held.one 5 #[true, true, true, true, true, true, true, true, true, false, false, false] (by kernel_rfl) (nth_l rfl) (by kernel_rfl) (fun KK hKK => ?_)
          refine step_append_lies (P := Tryz.prog) _ rfl (.tmp 29) (.tmp 30) 25 rfl w.heap.size 3 i0 (.int .i64 0) 1 8 Tryz.underlying25 hi0 hz0 hz1 hz2 rfl (by decide) V55 n3 (intCs e.picks) rfl O56.out ⟨G56, 0, none⟩ 1 1 [.int .i64 77] rfl rfl N56.out.add (by intro u hu; simp at hu; subst hu; rfl) (by decide) (by unfold maxLen; omega) (by omega) C56.out.fr.size _ rfl ?_
          intro G57 cap57 W57 k1 k2 k3 k4
          have C57 := Lib.hid (C56.out.grown O56.out (by decide) k2)
          have O57 := Lib.hid k1
          have hcap57 := own_cap k1
          have hci57 : (n3 : Int) ≤ (cap57 : Int) := by omega
          have A157 := Lib.hid (A156.out.kt (Kt.grown O56.out k2 (by decide)))
          have A257 := Lib.hid (A256.out.kt (Kt.grown O56.out k2 (by decide)))
          clear k1 k2 k3 k4
          have s57 := (res_cells C57.out.ev).1.2.2.2.2
          refine hKK.out _ _ (fun _ => s57) ?_
          clear hKK KK
          try simp only [Act.put, List.setIfInBounds_toArray, List.set_cons_zero, List.set_cons_succ]
          refine Held.take 9 #[true, true, true, true, true, true, true, true, true, true, false, false] (v := ?v9x58) (by kernel_rfl) (nth_l rfl) (by kernel_rfl) (by kernel_rfl) (by kernel_rfl) (by kernel_rfl) ?hQ9x58 ?hy9x58 ?hS9x58 ?rest9x58
          case hQ9x58 => exact fun _ _ _ h => h
          case hy9x58 =>
            refine Or.inl ⟨by rfl, fun w1 hw1 => ?_⟩
            dsimp only at hw1
            go_simp
            try with_reducible rfl
          case hS9x58 => exact s57
          try simp only [Act.put, List.setIfInBounds_toArray, List.set_cons_zero, List.set_cons_succ]
          refine Held.take 10 #[true, true, true, true, true, true, true, true, true, true, true, false] (v := ?v10x59) (by kernel_rfl) (nth_l rfl) (by kernel_rfl) (by kernel_rfl) (by kernel_rfl) (by kernel_rfl) ?hQ10x59 ?hy10x59 ?hS10x59 ?rest10x59
          case hQ10x59 => exact fun _ _ _ h => h
          case hy10x59 =>
            refine Or.inl ⟨by rfl, fun w1 hw1 => ?_⟩
            dsimp only at hw1
            go_simp
            try with_reducible rfl
          case hS10x59 => exact s57
          try simp only [Act.put, List.setIfInBounds_toArray, List.set_cons_zero, List.set_cons_succ]
          have fz57 := (res_cells C57.out.ev).2.2.2.2.2
          have lt57 := lt_of_block C57.out.ev
          refine Held.one 11 #[true, true, true, true, true, true, true, true, true, true, true, true] (by kernel_rfl) (nth_l rfl) (by kernel_rfl) (fun KK hKK => ?_)
          go_simp
          refine hKK.out _ _ (fun h => absurd rfl h) ?_
          clear hKK KK
          try simp only [Act.put, List.setIfInBounds_toArray, List.set_cons_zero, List.set_cons_succ]
          refine Held.done _ (by kernel_rfl) ?_
          go_wp2_with fail
          go_meet
          exact ⟨_, C57.out.set4 _, A157.out.kt (Kt.set (p := ⟨B, 4, none⟩) C57.out.ev (by decide) _), A257.out.kt (Kt.set (p := ⟨B, 4, none⟩) C57.out.ev (by decide) _), Own.kt ⟨G57, cap57, rfl, O57.out⟩ (Kt.set (p := ⟨B, 4, none⟩) C57.out.ev (by decide) _)⟩
        · go_simp
          obtain ⟨W60, hW60⟩ : ∃ W9, W9 = W54.alloc (.cells #[.int .i64 77] 3) := ⟨_, rfl⟩
          obtain ⟨G60, hG60⟩ : ∃ g9, g9 = W54.heap.size := ⟨_, rfl⟩
          rw [← hW60, ← hG60]
          have f60 : Fr No W54 W60 := by rw [hW60]; exact (Fr.refl _ _).alloc _
          have N60 : Hid (Row W60 G60 [.int .i64 77]) := Lib.hid (Row.new (by rw [hW60, hG60]; exact heap_alloc_new _ _))
          have C60 := Lib.hid (C54.out.no f60)
          have A160 := Lib.hid (A154.out.kt (Kt.ofFr f60))
          have A260 := Lib.hid (A254.out.kt (Kt.ofFr f60))
          have O60 := Lib.hid ((Kt.ofFr f60).owns O54.out)
          have E60 : Hid (some G60 ≠ (Value.slice (some ⟨G54, 0, none⟩) 0 0).ownBlock) := Lib.hid (by intro e9; have e8 : G60 = G54 := Option.some.inj e9; have e7 := (World.ownsRow.lt O54.out G54 rfl).2; omega)
          clear hW60 hG60 f60
          have s60 := (res_cells C60.out.ev).1.2.2.2.2
          refine hKK.out _ _ (fun _ => s60) ?_
          clear hKK KK
          try simp only [Act.put, List.setIfInBounds_toArray, List.set_cons_zero, List.set_cons_succ]
          refine Held.one 3 #[true, true, true, true, true, false, true, true, true, false, false, false] (by kernel_rfl) (nth_l rfl) (by kernel_rfl) (fun KK hKK => ?_)
          refine step_append_any (P := Tryz.prog) rfl (.tmp 26) (.tmp 28) 25 rfl w.heap.size 3 i0 (.int .i64 0) 1 8 Tryz.underlying25 hi0 hz0 hz1 hz2 rfl (by decide) (.slice (some ⟨G54, 0, none⟩) 0 0) 0 [] rfl O60.out a3 n3 d3 (intCs e.picks) rfl (by unfold intCs; rw [List.length_map, HX.out.2.2.2.2.2.2.2, Nat.mul_one]) (HX.out.2.2.1.no C60.out.fr) (by intro u hu; unfold intCs at hu; obtain ⟨c, _, rfl⟩ := List.mem_map.1 hu; rfl) (by unfold maxLen; omega) (by omega) C60.out.fr.size ?_
          intro V61 W61 k1 k2
          have C61 := Lib.hid (C60.out.grown O60.out (by decide) k2)
          have O61 : Hid (W61.ownsRow w.heap.size 3 1 V61 n3 (intCs e.picks)) := Lib.hid (by rw [Nat.zero_add, List.nil_append] at k1; exact k1)
          have A161 := Lib.hid (A160.out.kt (Kt.grown O60.out k2 (by decide)))
          have A261 := Lib.hid (A260.out.kt (Kt.grown O60.out k2 (by decide)))
          have N61 := Lib.hid (N60.out.grown k2 E60.out)
          clear k1 k2
          have s61 := (res_cells C61.out.ev).1.2.2.2.2
          refine hKK.out _ _ (fun _ => s61) ?_
          clear hKK KK
          try simp only [Act.put, List.setIfInBounds_toArray, List.set_cons_zero, List.set_cons_succ]
          refine Held.one 5 #[true, true, true, true, true, true, true, true, true, false, false, false] (by kernel_rfl) (nth_l rfl) (by kernel_rfl) (fun KK hKK => ?_)
          refine step_append_lies (P := Tryz.prog) _ rfl (.tmp 29) (.tmp 30) 25 rfl w.heap.size 3 i0 (.int .i64 0) 1 8 Tryz.underlying25 hi0 hz0 hz1 hz2 rfl (by decide) V61 n3 (intCs e.picks) rfl O61.out ⟨G60, 0, none⟩ 1 1 [.int .i64 77] rfl rfl N61.out.add (by intro u hu; simp at hu; subst hu; rfl) (by decide) (by unfold maxLen; omega) (by omega) C61.out.fr.size _ rfl ?_
          intro G62 cap62 W62 k1 k2 k3 k4
          have C62 := Lib.hid (C61.out.grown O61.out (by decide) k2)
          have O62 := Lib.hid k1
          have hcap62 := own_cap k1
          have hci62 : (n3 : Int) ≤ (cap62 : Int) := by omega
          have A162 := Lib.hid (A161.out.kt (Kt.grown O61.out k2 (by decide)))
          have A262 := Lib.hid (A261.out.kt (Kt.grown O61.out k2 (by decide)))
          clear k1 k2 k3 k4
          have s62 := (res_cells C62.out.ev).1.2.2.2.2
          refine hKK.out _ _ (fun _ => s62) ?_
          clear hKK KK
          try simp only [Act.put, List.setIfInBounds_toArray, List.set_cons_zero, List.set_cons_succ]
          refine Held.take 9 #[true, true, true, true, true, true, true, true, true, true, false, false] (v := ?v9x63) (by kernel_rfl) (nth_l rfl) (by kernel_rfl) (by kernel_rfl) (by kernel_rfl) (by kernel_rfl) ?hQ9x63 ?hy9x63 ?hS9x63 ?rest9x63
          case hQ9x63 => exact fun _ _ _ h => h
          case hy9x63 =>
            refine Or.inl ⟨by rfl, fun w1 hw1 => ?_⟩
            dsimp only at hw1
            go_simp
            try with_reducible rfl
          case hS9x63 => exact s62
          try simp only [Act.put, List.setIfInBounds_toArray, List.set_cons_zero, List.set_cons_succ]
          refine Held.take 10 #[true, true, true, true, true, true, true, true, true, true, true, false] (v := ?v10x64) (by kernel_rfl) (nth_l rfl) (by kernel_rfl) (by kernel_rfl) (by kernel_rfl) (by kernel_rfl) ?hQ10x64 ?hy10x64 ?hS10x64 ?rest10x64
          case hQ10x64 => exact fun _ _ _ h => h
          case hy10x64 =>
            refine Or.inl ⟨by rfl, fun w1 hw1 => ?_⟩
            dsimp only at hw1
            go_simp
            try with_reducible rfl
          case hS10x64 => exact s62
          try simp only [Act.put, List.setIfInBounds_toArray, List.set_cons_zero, List.set_cons_succ]
          have fz62 := (res_cells C62.out.ev).2.2.2.2.2
          have lt62 := lt_of_block C62.out.ev
          refine Held.one 11 #[true, true, true, true, true, true, true, true, true, true, true, true] (by kernel_rfl) (nth_l rfl) (by kernel_rfl) (fun KK hKK => ?_)
          go_simp
          refine hKK.out _ _ (fun h => absurd rfl h) ?_
          clear hKK KK
          try simp only [Act.put, List.setIfInBounds_toArray, List.set_cons_zero, List.set_cons_succ]
          refine Held.done _ (by kernel_rfl) ?_
          go_wp2_with fail
          go_meet
          exact ⟨_, C62.out.set4 _, A162.out.kt (Kt.set (p := ⟨B, 4, none⟩) C62.out.ev (by decide) _), A262.out.kt (Kt.set (p := ⟨B, 4, none⟩) C62.out.ev (by decide) _), Own.kt ⟨G62, cap62, rfl, O62.out⟩ (Kt.set (p := ⟨B, 4, none⟩) C62.out.ev (by decide) _)⟩
      · go_simp
        obtain ⟨W65, hW65⟩ : ∃ W9, W9 = W48.alloc (.cells #[.int .i64 77] 3) := ⟨_, rfl⟩
        obtain ⟨G65, hG65⟩ : ∃ g9, g9 = W48.heap.size := ⟨_, rfl⟩
        rw [← hW65, ← hG65]
        have f65 : Fr No W48 W65 := by rw [hW65]; exact (Fr.refl _ _).alloc _
        have N65 : Hid (Row W65 G65 [.int .i64 77]) := Lib.hid (Row.new (by rw [hW65, hG65]; exact heap_alloc_new _ _))
        have C65 := Lib.hid (C48.out.no f65)
        have A165 := Lib.hid (A148.out.kt (Kt.ofFr f65))
        have A265 := Lib.hid (A248.out.kt (Kt.ofFr f65))
        clear hW65 hG65 f65
        have s65 := (res_cells C65.out.ev).1.2.2.2.2
        refine hKK.out _ _ (fun _ => s65) ?_
        clear hKK KK
        try simp only [Act.put, List.setIfInBounds_toArray, List.set_cons_zero, List.set_cons_succ]
        refine Held.one 0 #[true, true, true, false, true, false, true, true, true, false, false, false] (by kernel_rfl) (nth_l rfl) (by kernel_rfl) (fun KK hKK => ?_)
        go_simp
        obtain ⟨W66, hW66⟩ : ∃ W9, W9 = W65.alloc (.cells #[] 3) := ⟨_, rfl⟩
        obtain ⟨G66, hG66⟩ : ∃ g9, g9 = W65.heap.size := ⟨_, rfl⟩
        rw [← hW66, ← hG66]
        have f66 : Fr No W65 W66 := by rw [hW66]; exact (Fr.refl _ _).alloc _
        have O66 : Hid (W66.ownsRow w.heap.size 3 1 (.slice (some ⟨G66, 0, none⟩) 0 0) 0 []) := Lib.hid (by rw [hW66, hG66]; exact World.ownsRow_lit _ #[] 0 C65.out.fr.size (by decide) rfl)
        have C66 := Lib.hid (C65.out.no f66)
        have A166 := Lib.hid (A165.out.kt (Kt.ofFr f66))
        have A266 := Lib.hid (A265.out.kt (Kt.ofFr f66))
        have N66 := Lib.hid (N65.out.no f66)
        have E66 : Hid (some G65 ≠ (Value.slice (some ⟨G66, 0, none⟩) 0 0).ownBlock) := Lib.hid (by intro e9; have e8 : G65 = G66 := Option.some.inj e9; have e7 := N65.out.1; omega)
        clear hW66 hG66 f66
        have s66 := (res_cells C66.out.ev).1.2.2.2.2
        refine hKK.out _ _ (fun _ => s66) ?_
        clear hKK KK
        try simp only [Act.put, List.setIfInBounds_toArray, List.set_cons_zero, List.set_cons_succ]
        refine Held.one 3 #[true, true, true, true, true, false, true, true, true, false, false, false] (by kernel_rfl) (nth_l rfl) (by kernel_rfl) (fun KK hKK => ?_)
        refine step_append_any (P := Tryz.prog) rfl (.tmp 26) (.tmp 28) 25 rfl w.heap.size 3 i0 (.int .i64 0) 1 8 Tryz.underlying25 hi0 hz0 hz1 hz2 rfl (by decide) (.slice (some ⟨G66, 0, none⟩) 0 0) 0 [] rfl O66.out a3 n3 d3 (intCs e.picks) rfl (by unfold intCs; rw [List.length_map, HX.out.2.2.2.2.2.2.2, Nat.mul_one]) (HX.out.2.2.1.no C66.out.fr) (by intro u hu; unfold intCs at hu; obtain ⟨c, _, rfl⟩ := List.mem_map.1 hu; rfl) (by unfold maxLen; omega) (by omega) C66.out.fr.size ?_
        intro V67 W67 k1 k2
        have C67 := Lib.hid (C66.out.grown O66.out (by decide) k2)
        have O67 : Hid (W67.ownsRow w.heap.size 3 1 V67 n3 (intCs e.picks)) := Lib.hid (by rw [Nat.zero_add, List.nil_append] at k1; exact k1)
        have A167 := Lib.hid (A166.out.kt (Kt.grown O66.out k2 (by decide)))
        have A267 := Lib.hid (A266.out.kt (Kt.grown O66.out k2 (by decide)))
        have N67 := Lib.hid (N66.out.grown k2 E66.out)
        clear k1 k2
        have s67 := (res_cells C67.out.ev).1.2.2.2.2
        refine hKK.out _ _ (fun _ => s67) ?_
        clear hKK KK
        try simp only [Act.put, List.setIfInBounds_toArray, List.set_cons_zero, List.set_cons_succ]
        refine Held.one 5 #[true, true, true, true, true, true, true, true, true, false, false, false] (by kernel_rfl) (nth_l rfl) (by kernel_rfl) (fun KK hKK => ?_)
        refine step_append_lies (P := Tryz.prog) _ rfl (.tmp 29) (.tmp 30) 25 rfl w.heap.size 3 i0 (.int .i64 0) 1 8 Tryz.underlying25 hi0 hz0 hz1 hz2 rfl (by decide) V67 n3 (intCs e.picks) rfl O67.out ⟨G65, 0, none⟩ 1 1 [.int .i64 77] rfl rfl N67.out.add (by intro u hu; simp at hu; subst hu; rfl) (by decide) (by unfold maxLen; omega) (by omega) C67.out.fr.size _ rfl ?_
        intro G68 cap68 W68 k1 k2 k3 k4
        have C68 := Lib.hid (C67.out.grown O67.out (by decide) k2)
        have O68 := Lib.hid k1
        have hcap68 := own_cap k1
        have hci68 : (n3 : Int) ≤ (cap68 : Int) := by omega
        have A168 := Lib.hid (A167.out.kt (Kt.grown O67.out k2 (by decide)))
        have A268 := Lib.hid (A267.out.kt (Kt.grown O67.out k2 (by decide)))
        clear k1 k2 k3 k4
        have s68 := (res_cells C68.out.ev).1.2.2.2.2
        refine hKK.out _ _ (fun _ => s68) ?_
        clear hKK KK
        try simp only [Act.put, List.setIfInBounds_toArray, List.set_cons_zero, List.set_cons_succ]
        refine Held.take 9 #[true, true, true, true, true, true, true, true, true, true, false, false] (v := ?v9x69) (by kernel_rfl) (nth_l rfl) (by kernel_rfl) (by kernel_rfl) (by kernel_rfl) (by kernel_rfl) ?hQ9x69 ?hy9x69 ?hS9x69 ?rest9x69
        case hQ9x69 => exact fun _ _ _ h => h
        case hy9x69 =>
          refine Or.inl ⟨by rfl, fun w1 hw1 => ?_⟩
          dsimp only at hw1
          go_simp
          try with_reducible rfl
        case hS9x69 => exact s68
        try simp only [Act.put, List.setIfInBounds_toArray, List.set_cons_zero, List.set_cons_succ]
        refine Held.take 10 #[true, true, true, true, true, true, true, true, true, true, true, false] (v := ?v10x70) (by kernel_rfl) (nth_l rfl) (by kernel_rfl) (by kernel_rfl) (by kernel_rfl) (by kernel_rfl) ?hQ10x70 ?hy10x70 ?hS10x70 ?rest10x70
        case hQ10x70 => exact fun _ _ _ h => h
        case hy10x70 =>
          refine Or.inl ⟨by rfl, fun w1 hw1 => ?_⟩
          dsimp only at hw1
          go_simp
          try with_reducible rfl
        case hS10x70 => exact s68
        try simp only [Act.put, List.setIfInBounds_toArray, List.set_cons_zero, List.set_cons_succ]
        have fz68 := (res_cells C68.out.ev).2.2.2.2.2
        have lt68 := lt_of_block C68.out.ev
        refine Held.one 11 #[true, true, true, true, true, true, true, true, true, true, true, true] (by kernel_rfl) (nth_l rfl) (by kernel_rfl) (fun KK hKK => ?_)
        go_simp
        refine hKK.out _ _ (fun h => absurd rfl h) ?_
        clear hKK KK
        try simp only [Act.put, List.setIfInBounds_toArray, List.set_cons_zero, List.set_cons_succ]
        refine Held.done _ (by kernel_rfl) ?_
        go_wp2_with fail
        go_meet
        exact ⟨_, C68.out.set4 _, A168.out.kt (Kt.set (p := ⟨B, 4, none⟩) C68.out.ev (by decide) _), A268.out.kt (Kt.set (p := ⟨B, 4, none⟩) C68.out.ev (by decide) _), Own.kt ⟨G68, cap68, rfl, O68.out⟩ (Kt.set (p := ⟨B, 4, none⟩) C68.out.ev (by decide) _)⟩
      case rest =>
        obtain ⟨v3, hC, hO1, hO2, hO3⟩ := hcut
        clear HC0 HO1 HO2
        have hX := HX.out
        have hk := res_kt hC.rs (T := 5) (by decide) (.int .i64 k) (.int .i64 cn) v1 v2 v3
        have hk2 := res_kt hC.rs (T := 70) (by decide) (.int .i64 k) (.int .i64 cn) v1 v2 v3
        have hk3 := res_kt hC.rs (T := 3) (by decide) (.int .i64 k) (.int .i64 cn) v1 v2 v3
        have HR1 := Lib.hid ((hO1.kt hk).row (by rw [List.length_append]; unfold byteCs; rw [List.length_map, hX.2.2.2.2.2.1]; simp))
        have HR2 := Lib.hid ((hO2.kt hk2).row (by rw [List.length_append, fateCs_len, hX.2.2.2.2.2.2.1]; simp; omega))
        have HR3 := Lib.hid ((hO3.kt hk3).row (by rw [List.length_append]; unfold intCs; rw [List.length_map, hX.2.2.2.2.2.2.2]; simp))
        obtain ⟨g1, cap1, rfl, r1, l1, cu1, t1⟩ := HR1.out
        obtain ⟨g2, cap2, rfl, r2, l2, cu2, t2⟩ := HR2.out
        obtain ⟨g3, cap3, rfl, r3, l3, cu3, t3⟩ := HR3.out
        have HTY := Lib.hid (And.intro t1 (And.intro t2 t3))
        have HRR := Lib.hid (And.intro (And.intro r1 l1) (And.intro (And.intro r2 l2) (And.intro r3 l3)))
        clear t1 t2 t3 r1 l1 r2 l2 r3 l3 HR1 HR2 HR3
        obtain ⟨⟨p0, p1, p2, p3, p4⟩, _⟩ := res_cells hC.ev
        obtain ⟨⟨q0, q1, q2, q3, q4⟩, ⟨f0, f1, f2, f3, f4⟩⟩ := res_cells hC.rs
        have hl1 := lt_of_block hC.ev
        have hl2 := lt_of_block hC.rs
        have HF := Lib.hid (res_fin hC.fr (show w.heap.size ≤ B + 1 from Nat.le_succ_of_le hC.le) hC.rs (.int .i64 k) (.int .i64 cn) (.slice (some ⟨g1, 0, none⟩) n1 cap1) (.slice (some ⟨g2, 0, none⟩) n2 cap2) (.slice (some ⟨g3, 0, none⟩) n3 cap3))
        clear hC hO1 hO2 hO3 hX hk hk2 hk3
        go_wp2_with fail
        refine bodyPost_ret (results_copied _ _ (B + 1) _ rfl HF.out.1 rfl) rfl ⟨_, rfl, ?_, HF.out.2, ⟨k, cn, g1, n1, cap1, g2, n2, cap2, g3, n3, cap3, cu1, cu2, cu3, rfl, HTY.out.1, HTY.out.2.1, HTY.out.2.2⟩⟩
        obtain ⟨_, _, _, rfl, rfl, rfl, rfl, rfl⟩ := HX.out
        exact ⟨g1, cap1, g2, cap2, g3, cap3, rfl, HRR.out.1, HRR.out.2.1, HRR.out.2.2⟩
theorem copied_any (v : Value) (e : Ev) (w : World) (hv : EvAt w v e) (h1 : e.bytes.length ≤ 1000000) (h2 : e.fates.length ≤ 1000000) (h3 : e.picks.length ≤ 1000000) :
    Calls Tryz.prog 8 #[v] w fun en w' => ∃ v', en = .returned v' ∧ KeptAt w' v' e ∧ Fr No w w' :=
  (copied_ty v e w hv h1 h2 h3).mono fun _ _ ⟨v', a, b, c, _⟩ => ⟨v', a, b, c⟩
theorem KeptTy.no {w w' : World} {v : Value} (h : KeptTy w v) (hf : Fr No w w') : KeptTy w' v := by
  obtain ⟨k, cn, g1, n1, c1, g2, n2, c2, g3, n3, c3, u1, u2, u3, rfl, t1, t2, t3⟩ := h
  exact ⟨k, cn, g1, n1, c1, g2, n2, c2, g3, n3, c3, u1, u2, u3, rfl, hf.at t1 (fun h => h), hf.at t2 (fun h => h), hf.at t3 (fun h => h)⟩
theorem Row.same {W W' : World} {g : Nat} {cs : List Value} (h : Row W g cs) (e : W'.heap[g]? = W.heap[g]?) : Row W' g cs := by
  have h1 := h.1
  have h2 : g < W'.heap.size := by
    rcases Nat.lt_or_ge g W'.heap.size with hl | hl
    · exact hl
    · rw [Array.getElem?_eq_none hl, Array.getElem?_eq_getElem h1] at e
      cases e
  exact ⟨h2, fun j u hj => (show W'.cell? ⟨g, j, none⟩ = W.cell? ⟨g, j, none⟩ from World.cell?_of_block (w := W) e).trans (h.2 j u hj)⟩
/-- A row of events grows: what is kept stays kept. -/
theorem KeptAt.grown {W W' : World} {v vm : Value} {e : Ev} {base n : Nat} {xs : List Value} (h : KeptAt W v e) (t : KeptTy W v) (ho : W.ownsRow base 27 5 vm n xs) (k : W.grownBy W' vm.ownBlock) : KeptAt W' v e ∧ KeptTy W' v := by
  obtain ⟨g1, c1, g2, c2, g3, c3, rfl, ⟨r1, q1⟩, ⟨r2, q2⟩, ⟨r3, q3⟩⟩ := h.form
  obtain ⟨k0, cn0, f1, m1, d1, f2, m2, d2, f3, m3, d3, u1, u2, u3, ev, t1, t2, t3⟩ := t
  simp only [Value.agg.injEq, Array.mk.injEq, List.cons.injEq, Value.slice.injEq, Value.int.injEq, Option.some.injEq, Addr.mk.injEq, true_and, and_true] at ev
  obtain ⟨rfl, rfl, ⟨rfl, rfl, rfl⟩, ⟨rfl, rfl, rfl⟩, rfl, rfl, rfl⟩ := ev
  have b1 := k.block g1 (lt_of_block t1) (fun e => own_ne ho t1 (by decide) e.symm)
  have b2 := k.block g2 (lt_of_block t2) (fun e => own_ne ho t2 (by decide) e.symm)
  have b3 := k.block g3 (lt_of_block t3) (fun e => own_ne ho t3 (by decide) e.symm)
  exact ⟨⟨g1, c1, g2, c2, g3, c3, rfl, ⟨r1.same b1, q1⟩, ⟨r2.same b2, q2⟩, ⟨r3.same b3, q3⟩⟩, ⟨_, _, g1, _, c1, g2, _, c2, g3, _, c3, u1, u2, u3, rfl, b1.trans t1, b2.trans t2, b3.trans t3⟩⟩
end Go.Proofs.YtjidpccgjiogbaaGreatDoor
