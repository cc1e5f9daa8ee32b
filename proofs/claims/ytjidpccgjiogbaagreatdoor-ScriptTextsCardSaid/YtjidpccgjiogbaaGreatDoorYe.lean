/-
  Clone walked (bytes, fates, picks).
-/
/-
  The program's copied walked: an event whose lists are new.
-/
import Derived.Test.YtjidpccgjiogbaaGreatDoorYc
import Derived.Test.YtjidpccgjiogbaaGreatDoorCp
import Derived.Test.YtjidpccgjiogbaaGreatDoorKz
namespace Go.Proofs.YtjidpccgjiogbaaGreatDoor
open Go Go.RowKit
set_option maxHeartbeats 4000000 in
set_option maxRecDepth 100000 in
theorem cloneB_any (a : Option Addr) (n c : Nat) (cs : List Value) (w : World) (hl : cs.length = n * 1) (hc : CellsAt w a cs) (h1 : ∀ u ∈ cs, u.oneCell' = true) (hbig : n ≤ 1000000) :
    Calls Tryz.prog 64 #[.slice a n c] w fun e w' => ∃ v, e = .returned v ∧ w'.ownsRow w.heap.size 5 1 v n cs ∧ Fr No w w' := by
  have q22 : ∀ (w : World) (a : Option Addr) (n c n' c' : Nat), (binOp .eql 23 (.slice a n c) (.slice none n' c')).run Tryz.prog w = .ok (.bool a.isNone) w := fun w a n c n' c' => Lib.run_eql_slice_nil w _ _ a n c n' c' Tryz.underlying23
  cases a with
  | none =>
    have hcs : cs = [] := by
      rcases hc with h | ⟨b, off, e, _⟩
      · exact h
      · cases e
    subst hcs
    have hn : n = 0 := by simp at hl; omega
    subst hn
    go_enter Tryz.func64, Tryz.ntmps64
    go_wp2_with fail
    go_ret
    exact ⟨_, rfl, World.ownsRow_nil _ _ _ _, Fr.refl _ _⟩
  | some p =>
    obtain ⟨i0, hi0, hz0, hz1, hz2⟩ := info_parts infoByte
    have HX := Lib.hid (And.intro hl (And.intro hc h1))
    clear hl hc h1
    go_enter Tryz.func64, Tryz.ntmps64
    go_wp2_with (at_builtin; refine wpList_append_any (P := Tryz.prog) rfl _ _ 23 rfl w.heap.size 5 i0 (.int .u8 0) 1 1 Tryz.underlying23 hi0 hz0 hz1 hz2 rfl (by decide) (.slice (some ⟨w.heap.size, 0, none⟩) 0 0) 0 [] rfl (World.ownsRow_lit _ #[] 0 (Nat.le_refl _) (by decide) rfl) (some p) n c cs rfl HX.out.1 (HX.out.2.1.no ((Fr.refl _ _).alloc _)) HX.out.2.2 (by unfold maxLen; omega) (by omega) (by simp) ?_; intro v3 w3 k1 k2)
    go_ret
    refine ⟨v3, rfl, by rw [Nat.zero_add, List.nil_append] at k1; exact k1, ?_⟩
    exact ((Fr.refl No w).alloc _).grown k2 (fun r e hr => by
      have e2 : w.heap.size = r := by simpa [Value.ownBlock] using e
      exact absurd hr (by omega))
set_option maxHeartbeats 4000000 in
set_option maxRecDepth 100000 in
theorem cloneF_any (a : Option Addr) (n c : Nat) (cs : List Value) (w : World) (hl : cs.length = n * 2) (hc : CellsAt w a cs) (h1 : ∀ u ∈ cs, u.oneCell' = true) (hbig : n ≤ 1000000) :
    Calls Tryz.prog 65 #[.slice a n c] w fun e w' => ∃ v, e = .returned v ∧ w'.ownsRow w.heap.size 70 2 v n cs ∧ Fr No w w' := by
  have q22 : ∀ (w : World) (a : Option Addr) (n c n' c' : Nat), (binOp .eql 24 (.slice a n c) (.slice none n' c')).run Tryz.prog w = .ok (.bool a.isNone) w := fun w a n c n' c' => Lib.run_eql_slice_nil w _ _ a n c n' c' Tryz.underlying24
  cases a with
  | none =>
    have hcs : cs = [] := by
      rcases hc with h | ⟨b, off, e, _⟩
      · exact h
      · cases e
    subst hcs
    have hn : n = 0 := by simp at hl; omega
    subst hn
    go_enter Tryz.func65, Tryz.ntmps65
    go_wp2_with fail
    go_ret
    exact ⟨_, rfl, World.ownsRow_nil _ _ _ _, Fr.refl _ _⟩
  | some p =>
    obtain ⟨i0, hi0, hz0, hz1, hz2⟩ := info_parts infoFate
    have HX := Lib.hid (And.intro hl (And.intro hc h1))
    clear hl hc h1
    go_enter Tryz.func65, Tryz.ntmps65
    go_wp2_with (at_builtin; refine wpList_append_any (P := Tryz.prog) rfl _ _ 24 rfl w.heap.size 70 i0 (.agg #[.int .i64 0, .int .i64 0]) 2 16 Tryz.underlying24 hi0 hz0 hz1 hz2 rfl (by decide) (.slice (some ⟨w.heap.size, 0, none⟩) 0 0) 0 [] rfl (World.ownsRow_lit _ #[] 0 (Nat.le_refl _) (by decide) rfl) (some p) n c cs rfl HX.out.1 (HX.out.2.1.no ((Fr.refl _ _).alloc _)) HX.out.2.2 (by unfold maxLen; omega) (by omega) (by simp) ?_; intro v3 w3 k1 k2)
    go_ret
    refine ⟨v3, rfl, by rw [Nat.zero_add, List.nil_append] at k1; exact k1, ?_⟩
    exact ((Fr.refl No w).alloc _).grown k2 (fun r e hr => by
      have e2 : w.heap.size = r := by simpa [Value.ownBlock] using e
      exact absurd hr (by omega))
set_option maxHeartbeats 4000000 in
set_option maxRecDepth 100000 in
theorem cloneI_any (a : Option Addr) (n c : Nat) (cs : List Value) (w : World) (hl : cs.length = n * 1) (hc : CellsAt w a cs) (h1 : ∀ u ∈ cs, u.oneCell' = true) (hbig : n ≤ 1000000) :
    Calls Tryz.prog 66 #[.slice a n c] w fun e w' => ∃ v, e = .returned v ∧ w'.ownsRow w.heap.size 3 1 v n cs ∧ Fr No w w' := by
  have q22 : ∀ (w : World) (a : Option Addr) (n c n' c' : Nat), (binOp .eql 25 (.slice a n c) (.slice none n' c')).run Tryz.prog w = .ok (.bool a.isNone) w := fun w a n c n' c' => Lib.run_eql_slice_nil w _ _ a n c n' c' Tryz.underlying25
  cases a with
  | none =>
    have hcs : cs = [] := by
      rcases hc with h | ⟨b, off, e, _⟩
      · exact h
      · cases e
    subst hcs
    have hn : n = 0 := by simp at hl; omega
    subst hn
    go_enter Tryz.func66, Tryz.ntmps66
    go_wp2_with fail
    go_ret
    exact ⟨_, rfl, World.ownsRow_nil _ _ _ _, Fr.refl _ _⟩
  | some p =>
    obtain ⟨i0, hi0, hz0, hz1, hz2⟩ := info_parts infoInt
    have HX := Lib.hid (And.intro hl (And.intro hc h1))
    clear hl hc h1
    go_enter Tryz.func66, Tryz.ntmps66
    go_wp2_with (at_builtin; refine wpList_append_any (P := Tryz.prog) rfl _ _ 25 rfl w.heap.size 3 i0 (.int .i64 0) 1 8 Tryz.underlying25 hi0 hz0 hz1 hz2 rfl (by decide) (.slice (some ⟨w.heap.size, 0, none⟩) 0 0) 0 [] rfl (World.ownsRow_lit _ #[] 0 (Nat.le_refl _) (by decide) rfl) (some p) n c cs rfl HX.out.1 (HX.out.2.1.no ((Fr.refl _ _).alloc _)) HX.out.2.2 (by unfold maxLen; omega) (by omega) (by simp) ?_; intro v3 w3 k1 k2)
    go_ret
    refine ⟨v3, rfl, by rw [Nat.zero_add, List.nil_append] at k1; exact k1, ?_⟩
    exact ((Fr.refl No w).alloc _).grown k2 (fun r e hr => by
      have e2 : w.heap.size = r := by simpa [Value.ownBlock] using e
      exact absurd hr (by omega))
end Go.Proofs.YtjidpccgjiogbaaGreatDoor

namespace Go.Proofs.YtjidpccgjiogbaaGreatDoor
open Go Go.RowKit
theorem results_scopied (tmps : Array Value) (w : World) (g : Nat) (cs : Array Value) (h4 : tmps.getD 2 undef = .pointer (some ⟨g, 0, none⟩)) (hg : w.heap[g]? = some (.cells cs 27 (0, 0))) (hs : cs.size = 5) :
    (results Tryz.f55 tmps).run Tryz.prog w = .ok (.agg cs) w := by
  have h4' : tmps[2]?.getD undef = .pointer (some ⟨g, 0, none⟩) := by simpa using h4
  have hl := run_loadVar_row (P := Tryz.prog) w g 27 27 cs (0, 0) _ hg Tryz.underlying27 rfl (by rw [hs]; kernel_rfl)
  simp [results, Tryz.results55, h4', asAddr, hl]
/-- A value is an event's, its lists in memory from base on, each of its own. -/
structure NewAt (w : World) (base : Nat) (v : Value) (e : Ev) : Prop where
  form : ∃ v1 v2 v3, v = .agg #[.int .i64 e.kind, .int .i64 e.conn, v1, v2, v3] ∧ w.ownsRow base 5 1 v1 e.bytes.length (byteCs e.bytes) ∧ w.ownsRow base 70 2 v2 e.fates.length (fateCs e.fates) ∧ w.ownsRow base 3 1 v3 e.picks.length (intCs e.picks)
theorem owns_shape {w : World} {base size n : Nat} {T : TypeId} {v : Value} {xs : List Value} (h : w.ownsRow base T size v n xs) : ∃ ad m cp, v = .slice ad m cp := by
  rcases h.2 with ⟨rfl, _⟩ | ⟨g, cap, cur, rfl, _⟩
  · exact ⟨_, _, _, rfl⟩
  · exact ⟨_, _, _, rfl⟩
theorem EvAt.rows {w : World} {e : Ev} {k cn : Int} {a1 a2 a3 : Option Addr} {n1 n2 n3 c1 c2 c3 : Nat} (h : EvAt w (.agg #[.int .i64 k, .int .i64 cn, .slice a1 n1 c1, .slice a2 n2 c2, .slice a3 n3 c3]) e) :
    CellsAt w a1 (byteCs e.bytes) ∧ CellsAt w a2 (fateCs e.fates) ∧ CellsAt w a3 (intCs e.picks) := by
  obtain ⟨x1, y1, x2, y2, x3, y3, ea, r1, r2, r3⟩ := h.form
  simp only [Value.agg.injEq, Array.mk.injEq, List.cons.injEq, Value.slice.injEq, Value.int.injEq, true_and, and_true] at ea
  obtain ⟨_, _, ⟨rfl, _⟩, ⟨rfl, _⟩, rfl, _⟩ := ea
  exact ⟨r1, r2, r3⟩
set_option maxRecDepth 100000 in
set_option maxHeartbeats 8000000 in
theorem scopied_any (v : Value) (e : Ev) (w : World) (hv : EvAt w v e) (hs : isLong e = false) :
    Calls Tryz.prog 55 #[v] w fun en w' => ∃ v', en = .returned v' ∧ NewAt w' w.heap.size v' e ∧ Fr No w w' := by
  obtain ⟨k, cn, a1, n1, c1, a2, n2, c2, a3, n3, c3, rfl, hk, hcn, hn1, hn2, hn3⟩ := hv.named
  obtain ⟨r1, r2, r3⟩ := hv.rows
  obtain ⟨s1, s2, s3⟩ := short_small hs
  obtain ⟨B, hB⟩ : ∃ B, B = w.heap.size := ⟨_, rfl⟩
  obtain ⟨W0, hW0⟩ : ∃ W0, W0 = (w.alloc (.cells #[.int .i64 k, .int .i64 cn, .slice a1 n1 c1, .slice a2 n2 c2, .slice a3 n3 c3] 27)).alloc (.cells #[.int .i64 0, .int .i64 0, .slice none 0 0, .slice none 0 0, .slice none 0 0] 27) := ⟨_, rfl⟩
  have HC0 : Hid (CP w B k cn (.slice a1 n1 c1) (.slice a2 n2 c2) (.slice a3 n3 c3) W0) := Lib.hid (by
    have b1 := heap_alloc_new w (.cells #[.int .i64 k, .int .i64 cn, .slice a1 n1 c1, .slice a2 n2 c2, .slice a3 n3 c3] 27)
    have f2 : Fr No (w.alloc (.cells #[.int .i64 k, .int .i64 cn, .slice a1 n1 c1, .slice a2 n2 c2, .slice a3 n3 c3] 27)) W0 := by rw [hW0]; exact (Fr.refl _ _).alloc _
    have hs : (w.alloc (.cells #[.int .i64 k, .int .i64 cn, .slice a1 n1 c1, .slice a2 n2 c2, .slice a3 n3 c3] 27)).heap.size = w.heap.size + 1 := by simp
    have b2 : W0.heap[w.heap.size + 1]? = some (.cells #[.int .i64 0, .int .i64 0, .slice none 0 0, .slice none 0 0, .slice none 0 0] 27 (0, 0)) := by rw [hW0, ← hs]; exact heap_alloc_new _ _
    subst hB
    exact ⟨f2.at b1 (fun h => h), b2, ((Fr.refl No w).alloc _).trans_same f2, Nat.le_refl _⟩)
  have HCC : Hid (∀ wx, Fr No W0 wx → (wx.cell? ⟨B, 0, none⟩ = some (.int .i64 k) ∧ wx.cell? ⟨B, 1, none⟩ = some (.int .i64 cn) ∧ wx.cell? ⟨B, 2, none⟩ = some (.slice a1 n1 c1) ∧ wx.cell? ⟨B, 3, none⟩ = some (.slice a2 n2 c2) ∧ wx.cell? ⟨B, 4, none⟩ = some (.slice a3 n3 c3)) ∧ (wx.frozen? ⟨B, 0, none⟩ = false ∧ wx.frozen? ⟨B, 1, none⟩ = false ∧ wx.frozen? ⟨B, 2, none⟩ = false ∧ wx.frozen? ⟨B, 3, none⟩ = false ∧ wx.frozen? ⟨B, 4, none⟩ = false) ∧ B < wx.heap.size) := Lib.hid (fun wx hx => ⟨(res_cells (hx.at HC0.out.ev (fun h => h))).1, (res_cells (hx.at HC0.out.ev (fun h => h))).2, lt_of_block (hx.at HC0.out.ev (fun h => h))⟩)
  have K1 : Hid (∀ wx, Hid (Fr No W0 wx) → Calls Tryz.prog 64 #[.slice a1 n1 c1] wx fun en w1 => ∃ ad m cp, en = .returned (.slice ad m cp) ∧ Hid (w1.ownsRow w.heap.size 5 1 (.slice ad m cp) n1 (byteCs e.bytes)) ∧ Hid (Fr No W0 w1)) := Lib.hid (fun wx hx => by
    refine (cloneB_any a1 n1 c1 (byteCs e.bytes) wx (by unfold byteCs; rw [List.length_map, hn1, Nat.mul_one]) (r1.no (HC0.out.fr.trans_same hx.out)) (by intro u hu; unfold byteCs at hu; obtain ⟨c, _, rfl⟩ := List.mem_map.1 hu; rfl) (by omega)).mono ?_
    rintro en w1 ⟨v1, h1, h2, h3⟩
    obtain ⟨ad, m, cp, rfl⟩ := owns_shape h2
    exact ⟨ad, m, cp, h1, Lib.hid (owns_base h2 (HC0.out.fr.trans_same hx.out).size), Lib.hid (hx.out.trans_same h3)⟩)
  have K2 : Hid (∀ wx, Hid (Fr No W0 wx) → Calls Tryz.prog 65 #[.slice a2 n2 c2] wx fun en w1 => ∃ ad m cp, en = .returned (.slice ad m cp) ∧ Hid (w1.ownsRow w.heap.size 70 2 (.slice ad m cp) n2 (fateCs e.fates) ∧ Fr No wx w1) ∧ Hid (Fr No W0 w1)) := Lib.hid (fun wx hx => by
    refine (cloneF_any a2 n2 c2 (fateCs e.fates) wx (by rw [fateCs_len, hn2]) (r2.no (HC0.out.fr.trans_same hx.out)) (fateCs_one _) (by omega)).mono ?_
    rintro en w1 ⟨v1, h1, h2, h3⟩
    obtain ⟨ad, m, cp, rfl⟩ := owns_shape h2
    exact ⟨ad, m, cp, h1, Lib.hid ⟨owns_base h2 (HC0.out.fr.trans_same hx.out).size, h3⟩, Lib.hid (hx.out.trans_same h3)⟩)
  have K3 : Hid (∀ wx, Hid (Fr No W0 wx) → Calls Tryz.prog 66 #[.slice a3 n3 c3] wx fun en w1 => ∃ ad m cp, en = .returned (.slice ad m cp) ∧ Hid (w1.ownsRow w.heap.size 3 1 (.slice ad m cp) n3 (intCs e.picks) ∧ Fr No wx w1) ∧ Hid (Fr No W0 w1)) := Lib.hid (fun wx hx => by
    refine (cloneI_any a3 n3 c3 (intCs e.picks) wx (by unfold intCs; rw [List.length_map, hn3, Nat.mul_one]) (r3.no (HC0.out.fr.trans_same hx.out)) (by intro u hu; unfold intCs at hu; obtain ⟨c, _, rfl⟩ := List.mem_map.1 hu; rfl) (by omega)).mono ?_
    rintro en w1 ⟨v1, h1, h2, h3⟩
    obtain ⟨ad, m, cp, rfl⟩ := owns_shape h2
    exact ⟨ad, m, cp, h1, Lib.hid ⟨owns_base h2 (HC0.out.fr.trans_same hx.out).size, h3⟩, Lib.hid (hx.out.trans_same h3)⟩)
  have HWE := Lib.hid (And.intro hB hW0)
  have HXE := Lib.hid (And.intro hk (And.intro hcn (And.intro hn1 (And.intro hn2 hn3))))
  have HD := Lib.hid (Fr.refl No W0).drew
  obtain ⟨⟨p0, p1, p2, p3, p4⟩, ⟨f0, f1, f2, f3, f4⟩, fl⟩ := HCC.out W0 (Fr.refl _ _)
  clear hk hcn hn1 hn2 hn3 hv hB hW0 r1 r2 r3 s1 s2 s3 hs
  go_enter Tryz.func55, Tryz.ntmps55
  go_upto_region 1 with fail
  rw [← HWE.out.1, ← HWE.out.2]
  refine Heldz.start 15 #[false, false, false, false, false, false, false, false, false, false, false, false, false, false, false] (z := [10, 11, 12, 13, 14]) (S := (fun w1 => w1.cell? ⟨B, 2, none⟩ = some (.slice a1 n1 c1) ∧ w1.cell? ⟨B, 3, none⟩ = some (.slice a2 n2 c2) ∧ w1.cell? ⟨B, 4, none⟩ = some (.slice a3 n3 c3))) (by kernel_rfl) (by kernel_rfl) (by kernel_rfl) ?_
  refine Heldz.take 0 #[true, false, false, false, false, false, false, false, false, false, false, false, false, false, false] (v := ?v0x1) (by kernel_rfl) (nth_l rfl) (by kernel_rfl) (by kernel_rfl) (by kernel_rfl) (by kernel_rfl) ?hQ0x1 ?hy0x1 ?hS0x1 ?rest0x1
  case hQ0x1 => exact fun _ _ _ h => h
  case hy0x1 =>
    refine Or.inl ⟨by rfl, fun w1 hw1 => ?_⟩
    dsimp only at hw1
    skip
    go_simp
    try with_reducible rfl
  case hS0x1 => exact ⟨p2, p3, p4⟩
  try simp only [Act.put, List.setIfInBounds_toArray, List.set_cons_zero, List.set_cons_succ]
  refine Heldz.take 1 #[true, true, false, false, false, false, false, false, false, false, false, false, false, false, false] (v := ?v1x2) (by kernel_rfl) (nth_l rfl) (by kernel_rfl) (by kernel_rfl) (by kernel_rfl) (by kernel_rfl) ?hQ1x2 ?hy1x2 ?hS1x2 ?rest1x2
  case hQ1x2 => exact fun _ _ _ h => h
  case hy1x2 =>
    refine Or.inl ⟨by rfl, fun w1 hw1 => ?_⟩
    dsimp only at hw1
    skip
    go_simp
    try with_reducible rfl
  case hS1x2 => exact ⟨p2, p3, p4⟩
  try simp only [Act.put, List.setIfInBounds_toArray, List.set_cons_zero, List.set_cons_succ]
  refine Heldz.take 3 #[true, true, false, true, false, false, false, false, false, false, false, false, false, false, false] (v := ?v3x3) (by kernel_rfl) (nth_l rfl) (by kernel_rfl) (by kernel_rfl) (by kernel_rfl) (by kernel_rfl) ?hQ3x3 ?hy3x3 ?hS3x3 ?rest3x3
  case hQ3x3 => exact fun _ _ _ h => h
  case hy3x3 =>
    refine Or.inl ⟨by rfl, fun w1 hw1 => ?_⟩
    dsimp only at hw1
    skip
    go_simp
    try with_reducible rfl
  case hS3x3 => exact ⟨p2, p3, p4⟩
  try simp only [Act.put, List.setIfInBounds_toArray, List.set_cons_zero, List.set_cons_succ]
  refine Heldz.take 4 #[true, true, false, true, true, false, false, false, false, false, false, false, false, false, false] (v := ?v4x4) (by kernel_rfl) (nth_l rfl) (by kernel_rfl) (by kernel_rfl) (by kernel_rfl) (by kernel_rfl) ?hQ4x4 ?hy4x4 ?hS4x4 ?rest4x4
  case hQ4x4 => exact fun _ _ _ h => h
  case hy4x4 =>
    refine Or.inl ⟨by rfl, fun w1 hw1 => ?_⟩
    dsimp only at hw1
    skip
    go_simp
    try with_reducible rfl
  case hS4x4 => exact ⟨p2, p3, p4⟩
  try simp only [Act.put, List.setIfInBounds_toArray, List.set_cons_zero, List.set_cons_succ]
  refine Heldz.take 6 #[true, true, false, true, true, false, true, false, false, false, false, false, false, false, false] (v := ?v6x5) (by kernel_rfl) (nth_l rfl) (by kernel_rfl) (by kernel_rfl) (by kernel_rfl) (by kernel_rfl) ?hQ6x5 ?hy6x5 ?hS6x5 ?rest6x5
  case hQ6x5 => exact fun _ _ _ h => h
  case hy6x5 =>
    refine Or.inl ⟨by rfl, fun w1 hw1 => ?_⟩
    dsimp only at hw1
    skip
    go_simp
    try with_reducible rfl
  case hS6x5 => exact ⟨p2, p3, p4⟩
  try simp only [Act.put, List.setIfInBounds_toArray, List.set_cons_zero, List.set_cons_succ]
  refine Heldz.take 7 #[true, true, false, true, true, false, true, true, false, false, false, false, false, false, false] (v := ?v7x6) (by kernel_rfl) (nth_l rfl) (by kernel_rfl) (by kernel_rfl) (by kernel_rfl) (by kernel_rfl) ?hQ7x6 ?hy7x6 ?hS7x6 ?rest7x6
  case hQ7x6 => exact fun _ _ _ h => h
  case hy7x6 =>
    refine Or.inl ⟨by rfl, fun w1 hw1 => ?_⟩
    dsimp only at hw1
    skip
    go_simp
    try with_reducible rfl
  case hS7x6 => exact ⟨p2, p3, p4⟩
  try simp only [Act.put, List.setIfInBounds_toArray, List.set_cons_zero, List.set_cons_succ]
  refine Heldz.one 2 #[true, true, true, true, true, false, true, true, false, false, false, false, false, false, false] (by kernel_rfl) (nth_l rfl) (by kernel_rfl) (fun KK hKK => ?_)
  go_simp
  refine (K1.out _ (by exact HD)).mono ?_
  rintro en w1 ⟨ad1, m1, cp1, rfl, H1, HF1⟩
  dsimp only
  obtain ⟨⟨p0, p1, p2, p3, p4⟩, ⟨f0, f1, f2, f3, f4⟩, fl⟩ := HCC.out _ HF1.out
  refine hKK.out _ _ (fun _ => ⟨p2, p3, p4⟩) ?_
  clear hKK KK
  try simp only [Act.put, List.setIfInBounds_toArray, List.set_cons_zero, List.set_cons_succ]
  refine Heldz.take 9 #[true, true, true, true, true, false, true, true, false, true, false, false, false, false, false] (v := ?v9x7) (by kernel_rfl) (nth_l rfl) (by kernel_rfl) (by kernel_rfl) (by kernel_rfl) (by kernel_rfl) ?hQ9x7 ?hy9x7 ?hS9x7 ?rest9x7
  case hQ9x7 => exact fun _ _ _ h => h
  case hy9x7 =>
    refine Or.inl ⟨by rfl, fun w1 hw1 => ?_⟩
    dsimp only at hw1
    skip
    go_simp
    try with_reducible rfl
  case hS9x7 => exact ⟨p2, p3, p4⟩
  try simp only [Act.put, List.setIfInBounds_toArray, List.set_cons_zero, List.set_cons_succ]
  refine Heldz.one 5 #[true, true, true, true, true, true, true, true, false, true, false, false, false, false, false] (by kernel_rfl) (nth_l rfl) (by kernel_rfl) (fun KK hKK => ?_)
  go_simp
  refine (K2.out _ (by exact HF1)).mono ?_
  rintro en w2 ⟨ad2, m2, cp2, rfl, H2, HF2⟩
  dsimp only
  obtain ⟨⟨p0, p1, p2, p3, p4⟩, ⟨f0, f1, f2, f3, f4⟩, fl⟩ := HCC.out _ HF2.out
  refine hKK.out _ _ (fun _ => ⟨p2, p3, p4⟩) ?_
  clear hKK KK
  try simp only [Act.put, List.setIfInBounds_toArray, List.set_cons_zero, List.set_cons_succ]
  refine Heldz.one 8 #[true, true, true, true, true, true, true, true, true, true, false, false, false, false, false] (by kernel_rfl) (nth_l rfl) (by kernel_rfl) (fun KK hKK => ?_)
  go_simp
  refine (K3.out _ (by exact HF2)).mono ?_
  rintro en w3 ⟨ad3, m3, cp3, rfl, H3, HF3⟩
  dsimp only
  obtain ⟨⟨p0, p1, p2, p3, p4⟩, ⟨f0, f1, f2, f3, f4⟩, fl⟩ := HCC.out _ HF3.out
  refine hKK.out _ _ (fun _ => ⟨p2, p3, p4⟩) ?_
  clear hKK KK
  try simp only [Act.put, List.setIfInBounds_toArray, List.set_cons_zero, List.set_cons_succ]
  refine Heldz.one 10 #[true, true, true, true, true, true, true, true, true, true, true, false, false, false, false] (by kernel_rfl) (nth_l rfl) (by kernel_rfl) (fun KK hKK => ?_)
  go_simp
  refine hKK.out _ _ (fun h => absurd (by decide) h) ?_
  clear hKK KK
  try simp only [Act.put, List.setIfInBounds_toArray, List.set_cons_zero, List.set_cons_succ]
  refine Heldz.one 11 #[true, true, true, true, true, true, true, true, true, true, true, true, false, false, false] (by kernel_rfl) (nth_l rfl) (by kernel_rfl) (fun KK hKK => ?_)
  go_simp
  refine hKK.out _ _ (fun h => absurd (by decide) h) ?_
  clear hKK KK
  try simp only [Act.put, List.setIfInBounds_toArray, List.set_cons_zero, List.set_cons_succ]
  refine Heldz.one 12 #[true, true, true, true, true, true, true, true, true, true, true, true, true, false, false] (by kernel_rfl) (nth_l rfl) (by kernel_rfl) (fun KK hKK => ?_)
  go_simp
  refine hKK.out _ _ (fun h => absurd (by decide) h) ?_
  clear hKK KK
  try simp only [Act.put, List.setIfInBounds_toArray, List.set_cons_zero, List.set_cons_succ]
  refine Heldz.one 13 #[true, true, true, true, true, true, true, true, true, true, true, true, true, true, false] (by kernel_rfl) (nth_l rfl) (by kernel_rfl) (fun KK hKK => ?_)
  go_simp
  refine hKK.out _ _ (fun h => absurd (by decide) h) ?_
  clear hKK KK
  try simp only [Act.put, List.setIfInBounds_toArray, List.set_cons_zero, List.set_cons_succ]
  refine Heldz.one 14 #[true, true, true, true, true, true, true, true, true, true, true, true, true, true, true] (by kernel_rfl) (nth_l rfl) (by kernel_rfl) (fun KK hKK => ?_)
  go_simp
  refine hKK.out _ _ (fun h => absurd (by decide) h) ?_
  clear hKK KK
  try simp only [Act.put, List.setIfInBounds_toArray, List.set_cons_zero, List.set_cons_succ]
  refine Heldz.done _ (by kernel_rfl) ?_
  have HH1 := Lib.hid (And.intro ((Kt.ofFr (H2.out.2.trans_same H3.out.2)).owns H1.out) (And.intro ((Kt.ofFr H3.out.2).owns H2.out.1) H3.out.1))
  have hC3 := HC0.out.no HF3.out
  have hCs := ((hC3.set2 (.slice ad1 m1 cp1)).set3 (.slice ad2 m2 cp2)).set4 (.slice ad3 m3 cp3)
  obtain ⟨W4, hW4⟩ : ∃ W4, W4 = ((w3.setCell ⟨B, 2, none⟩ (.slice ad1 m1 cp1)).setCell ⟨B, 3, none⟩ (.slice ad2 m2 cp2)).setCell ⟨B, 4, none⟩ (.slice ad3 m3 cp3) := ⟨_, rfl⟩
  have kt : ∀ T, 27 ≠ T → Kt T w3 W4 := fun T hT => by
    rw [hW4]
    exact ((Kt.set (p := ⟨B, 2, none⟩) hC3.ev hT _).trans (Kt.set (p := ⟨B, 3, none⟩) (hC3.set2 _).ev hT _)).trans (Kt.set (p := ⟨B, 4, none⟩) ((hC3.set2 _).set3 _).ev hT _)
  rw [← hW4] at hCs ⊢
  have HOW : Hid (W4.ownsRow w.heap.size 5 1 (.slice ad1 m1 cp1) n1 (byteCs e.bytes) ∧ W4.ownsRow w.heap.size 70 2 (.slice ad2 m2 cp2) n2 (fateCs e.fates) ∧ W4.ownsRow w.heap.size 3 1 (.slice ad3 m3 cp3) n3 (intCs e.picks)) := Lib.hid ⟨(kt _ (by decide)).owns HH1.out.1, (kt _ (by decide)).owns HH1.out.2.1, (kt _ (by decide)).owns HH1.out.2.2⟩
  clear hW4 kt hC3 p0 p1 p2 p3 p4 f0 f1 f2 f3 f4 fl
  obtain ⟨⟨p0, p1, p2, p3, p4⟩, _⟩ := res_cells hCs.ev
  obtain ⟨⟨q0, q1, q2, q3, q4⟩, ⟨f0, f1, f2, f3, f4⟩⟩ := res_cells hCs.rs
  have hl1 := lt_of_block hCs.ev
  have hl2 := lt_of_block hCs.rs
  have HF := Lib.hid (res_fin hCs.fr (show w.heap.size ≤ B + 1 from Nat.le_succ_of_le hCs.le) hCs.rs (.int .i64 k) (.int .i64 cn) (.slice ad1 m1 cp1) (.slice ad2 m2 cp2) (.slice ad3 m3 cp3))
  have HKT := Lib.hid (fun (T : TypeId) (hT : 27 ≠ T) => res_kt hCs.rs hT (.int .i64 k) (.int .i64 cn) (.slice ad1 m1 cp1) (.slice ad2 m2 cp2) (.slice ad3 m3 cp3))
  clear hCs
  go_wp2_with fail
  refine bodyPost_ret (results_scopied _ _ (B + 1) _ rfl HF.out.1 rfl) rfl ⟨_, rfl, ?_, HF.out.2⟩
  obtain ⟨rfl, rfl, rfl, rfl, rfl⟩ := HXE.out
  exact ⟨_, _, _, rfl, (HKT.out _ (by decide)).owns HOW.out.1, (HKT.out _ (by decide)).owns HOW.out.2.1, (HKT.out _ (by decide)).owns HOW.out.2.2⟩
end Go.Proofs.YtjidpccgjiogbaaGreatDoor
