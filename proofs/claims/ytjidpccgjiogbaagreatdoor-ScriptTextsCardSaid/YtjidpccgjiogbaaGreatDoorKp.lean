/-
  kept: an event that lies in memory of its own, with one more element behind each of its lists.
-/
import Derived.Test.YtjidpccgjiogbaaGreatDoorSa
import Derived.Test.YtjidpccgjiogbaaGreatDoorRp
import Derived.Deep.RegionHeld3
namespace Go.Proofs.YtjidpccgjiogbaaGreatDoor
open Go Go.RowKit
/-- These cells stand in block g, from its start. -/
def Row (w : World) (g : Nat) (cs : List Value) : Prop := g < w.heap.size ∧ ∀ j v, cs[j]? = some v → w.cell? ⟨g, j, none⟩ = some v
theorem Row.no {w w' : World} {g : Nat} {cs : List Value} (h : Row w g cs) (hf : Fr No w w') : Row w' g cs :=
  ⟨Nat.lt_of_lt_of_le h.1 hf.size, fun j v hj => (hf.cell (p := ⟨g, j, none⟩) h.1 (fun h => h)).trans (h.2 j v hj)⟩
theorem Row.front {w : World} {g : Nat} {cs ds : List Value} (h : Row w g (cs ++ ds)) : CellsAt w (some ⟨g, 0, none⟩) cs :=
  .inr ⟨g, 0, rfl, h.1, fun j v hj => by
    rw [Nat.zero_add]
    exact h.2 j v (by rw [List.getElem?_append_left (List.getElem?_eq_some_iff.1 hj).1]; exact hj)⟩
theorem Row.at {w : World} {g : Nat} {cs ds : List Value} {n : Nat} (h : Row w g (cs ++ ds)) (hn : cs.length = n) (i : Nat) (v : Value) (hi : ds[i]? = some v) : w.cell? ⟨g, n + i, none⟩ = some v :=
  h.2 (n + i) v (by rw [List.getElem?_append_right (by omega), hn, Nat.add_sub_cancel_left]; exact hi)
/-- A value is an event's, and it is kept. -/
structure KeptAt (w : World) (v : Value) (e : Ev) : Prop where
  form : ∃ g1 c1 g2 c2 g3 c3, v = .agg #[.int .i64 e.kind, .int .i64 e.conn, .slice (some ⟨g1, 0, none⟩) e.bytes.length c1, .slice (some ⟨g2, 0, none⟩) e.fates.length c2, .slice (some ⟨g3, 0, none⟩) e.picks.length c3] ∧
    (Row w g1 (byteCs e.bytes ++ [.int .u8 165]) ∧ e.bytes.length + 1 ≤ c1) ∧ (Row w g2 (fateCs e.fates ++ [.int .i64 0, .int .i64 77]) ∧ e.fates.length + 1 ≤ c2) ∧ (Row w g3 (intCs e.picks ++ [.int .i64 77]) ∧ e.picks.length + 1 ≤ c3)
theorem KeptAt.at {w : World} {v : Value} {e : Ev} (h : KeptAt w v e) : EvAt w v e := by
  obtain ⟨g1, c1, g2, c2, g3, c3, rfl, ⟨h1, _⟩, ⟨h2, _⟩, ⟨h3, _⟩⟩ := h.form
  exact ⟨_, c1, _, c2, _, c3, rfl, h1.front, h2.front, h3.front⟩
theorem KeptAt.no {w w' : World} {v : Value} {e : Ev} (h : KeptAt w v e) (hf : Fr No w w') : KeptAt w' v e := by
  obtain ⟨g1, c1, g2, c2, g3, c3, rfl, ⟨h1, k1⟩, ⟨h2, k2⟩, ⟨h3, k3⟩⟩ := h.form
  exact ⟨g1, c1, g2, c2, g3, c3, rfl, ⟨h1.no hf, k1⟩, ⟨h2.no hf, k2⟩, ⟨h3.no hf, k3⟩⟩
theorem same_self (e : Ev) : same31 e e = true := by unfold same31; simp
set_option maxRecDepth 100000 in
set_option maxHeartbeats 8000000 in
theorem kept_any (v u : Value) (e : Ev) (w : World) (hv : KeptAt w v e) (hu : EvAt w u e) (he : e.small) :
    Calls Tryz.prog 12 #[v, u] w fun en w' => en = .returned (.bool true) ∧ Fr No w w' := by
  have hv0 := hv
  have hu0 := hu
  obtain ⟨g1, c1, g2, c2, g3, c3, rfl, ⟨h1, k1⟩, ⟨h2, k2⟩, ⟨h3, k3⟩⟩ := hv.form
  obtain ⟨a1, d1, a2, d2, a3, d3, rfl, _, _, _⟩ := hu.form
  have HS := Lib.hid (fun wx (hx : Fr No w wx) => (rsame_any _ _ e e wx (hv0.no hx).at (hu0.no hx) he he))
  obtain ⟨k, hk⟩ : ∃ k, e.kind = k := ⟨_, rfl⟩
  obtain ⟨cn, hcn⟩ : ∃ cn, e.conn = cn := ⟨_, rfl⟩
  obtain ⟨n1, hn1⟩ : ∃ n, e.bytes.length = n := ⟨_, rfl⟩
  obtain ⟨n2, hn2⟩ : ∃ n, e.fates.length = n := ⟨_, rfl⟩
  obtain ⟨n3, hn3⟩ : ∃ n, e.picks.length = n := ⟨_, rfl⟩
  rw [hk, hcn, hn1, hn2, hn3] at HS
  rw [hn1] at k1
  rw [hn2] at k2
  rw [hn3] at k3
  obtain ⟨he1, he2, he3⟩ := he
  rw [hn1] at he1
  rw [hn2] at he2
  rw [hn3] at he3
  rw [hk, hcn, hn1, hn2, hn3]
  obtain ⟨W1, hW1⟩ : ∃ W1, W1 = w.alloc (.cells #[.int .i64 k, .int .i64 cn, .slice (some ⟨g1, 0, none⟩) n1 c1, .slice (some ⟨g2, 0, none⟩) n2 c2, .slice (some ⟨g3, 0, none⟩) n3 c3] 27) := ⟨_, rfl⟩
  obtain ⟨W2, hW2⟩ : ∃ W2, W2 = W1.alloc (.cells #[.int .i64 k, .int .i64 cn, .slice a1 n1 d1, .slice a2 n2 d2, .slice a3 n3 d3] 27) := ⟨_, rfl⟩
  have hf1 : Fr No w W1 := by rw [hW1]; exact (Fr.refl _ _).alloc _
  have hf2 : Fr No W1 W2 := by rw [hW2]; exact (Fr.refl _ _).alloc _
  have b1 : W2.heap[w.heap.size]? = some (.cells #[.int .i64 k, .int .i64 cn, .slice (some ⟨g1, 0, none⟩) n1 c1, .slice (some ⟨g2, 0, none⟩) n2 c2, .slice (some ⟨g3, 0, none⟩) n3 c3] 27 (0, 0)) := hf2.at (by rw [hW1]; exact heap_alloc_new w _) (fun h => h)
  have b2 : W2.heap[W1.heap.size]? = some (.cells #[.int .i64 k, .int .i64 cn, .slice a1 n1 d1, .slice a2 n2 d2, .slice a3 n3 d3] 27 (0, 0)) := by rw [hW2]; exact heap_alloc_new W1 _
  have hs1 : W1.heap.size = w.heap.size + 1 := by rw [hW1]; simp
  rw [hs1] at b2
  obtain ⟨⟨p0, p1, p2, p3, p4⟩, _⟩ := res_cells b1
  obtain ⟨⟨q0, q1, q2, q3, q4⟩, _⟩ := res_cells b2
  have hf := hf1.trans_same hf2
  have r1 := (h1.no hf).at (n := n1) (by unfold byteCs; rw [List.length_map, hn1]) 0 _ rfl
  have r2 := (h2.no hf).at (n := n2 * 2) (by rw [fateCs_len, hn2]) 1 _ rfl
  have r3 := (h3.no hf).at (n := n3) (by unfold intCs; rw [List.length_map, hn3]) 0 _ rfl
  rw [Nat.add_zero] at r1 r3
  obtain ⟨S, hS⟩ : ∃ S : World → Prop, S = fun w1 => w1.cell? ⟨w.heap.size, 0, none⟩ = some (.int .i64 k) ∧ w1.cell? ⟨w.heap.size, 1, none⟩ = some (.int .i64 cn) ∧ w1.cell? ⟨w.heap.size, 2, none⟩ = some (.slice (some ⟨g1, 0, none⟩) n1 c1) ∧ w1.cell? ⟨w.heap.size, 3, none⟩ = some (.slice (some ⟨g2, 0, none⟩) n2 c2) ∧ w1.cell? ⟨w.heap.size, 4, none⟩ = some (.slice (some ⟨g3, 0, none⟩) n3 c3) ∧ w1.cell? ⟨w.heap.size + 1, 0, none⟩ = some (.int .i64 k) ∧ w1.cell? ⟨w.heap.size + 1, 1, none⟩ = some (.int .i64 cn) ∧ w1.cell? ⟨w.heap.size + 1, 2, none⟩ = some (.slice a1 n1 d1) ∧ w1.cell? ⟨w.heap.size + 1, 3, none⟩ = some (.slice a2 n2 d2) ∧ w1.cell? ⟨w.heap.size + 1, 4, none⟩ = some (.slice a3 n3 d3) ∧ w1.cell? ⟨g1, n1, none⟩ = some (.int .u8 165) ∧ w1.cell? ⟨g2, n2 * 2 + 1, none⟩ = some (.int .i64 77) ∧ w1.cell? ⟨g3, n3, none⟩ = some (.int .i64 77) := ⟨_, rfl⟩
  have hSW : ∀ w1, Fr No W2 w1 → S w1 := fun w1 hx => by
    have l1 := lt_of_block b1
    have l2 := lt_of_block b2
    have l3 := (h1.no hf).1
    have l4 := (h2.no hf).1
    have l5 := (h3.no hf).1
    rw [hS]
    exact ⟨(hx.cell (p := ⟨w.heap.size, 0, none⟩) l1 (fun h => h)).trans p0, (hx.cell (p := ⟨w.heap.size, 1, none⟩) l1 (fun h => h)).trans p1, (hx.cell (p := ⟨w.heap.size, 2, none⟩) l1 (fun h => h)).trans p2, (hx.cell (p := ⟨w.heap.size, 3, none⟩) l1 (fun h => h)).trans p3, (hx.cell (p := ⟨w.heap.size, 4, none⟩) l1 (fun h => h)).trans p4,
      (hx.cell (p := ⟨w.heap.size + 1, 0, none⟩) l2 (fun h => h)).trans q0, (hx.cell (p := ⟨w.heap.size + 1, 1, none⟩) l2 (fun h => h)).trans q1, (hx.cell (p := ⟨w.heap.size + 1, 2, none⟩) l2 (fun h => h)).trans q2, (hx.cell (p := ⟨w.heap.size + 1, 3, none⟩) l2 (fun h => h)).trans q3, (hx.cell (p := ⟨w.heap.size + 1, 4, none⟩) l2 (fun h => h)).trans q4,
      (hx.cell (p := ⟨g1, n1, none⟩) l3 (fun h => h)).trans r1, (hx.cell (p := ⟨g2, n2 * 2 + 1, none⟩) l4 (fun h => h)).trans r2, (hx.cell (p := ⟨g3, n3, none⟩) l5 (fun h => h)).trans r3⟩
  have HSW : Hid (∀ wx, W2.drew = wx → Calls Tryz.prog 14 #[.agg #[.int .i64 k, .int .i64 cn, .slice (some ⟨g1, 0, none⟩) n1 c1, .slice (some ⟨g2, 0, none⟩) n2 c2, .slice (some ⟨g3, 0, none⟩) n3 c3], .agg #[.int .i64 k, .int .i64 cn, .slice a1 n1 d1, .slice a2 n2 d2, .slice a3 n3 d3]] wx fun e w' => e = .returned (.bool true) ∧ S w' ∧ Hid (Fr No w w')) := Lib.hid (fun wx hx => by
    subst hx
    refine (HS.out W2.drew hf.drew).mono ?_
    rintro e' w' ⟨h4, h5⟩
    rw [same_self] at h4
    have h6 : Fr No W2 w' := ((Fr.refl No W2).drew).trans_same h5
    exact ⟨h4, hSW w' h6, Lib.hid (hf.trans_same h6)⟩)
  have hSd := hSW W2.drew (Fr.refl No W2).drew
  have hN1 : (0 : Int) ≤ (n1 : Int) + 1 := by omega
  have hN2 : (0 : Int) ≤ (n2 : Int) + 1 := by omega
  have hN3 : (0 : Int) ≤ (n3 : Int) + 1 := by omega
  have hC1 : (n1 : Int) + 1 ≤ (c1 : Int) := by omega
  have hC2 : (n2 : Int) + 1 ≤ (c2 : Int) := by omega
  have hC3 : (n3 : Int) + 1 ≤ (c3 : Int) := by omega
  have hL1 : (n1 : Int) < (n1 : Int) + 1 := by omega
  have hL2 : (n2 : Int) < (n2 : Int) + 1 := by omega
  have hL3 : (n3 : Int) < (n3 : Int) + 1 := by omega
  have hT1 : ((n1 : Int) + 1).toNat = n1 + 1 := by omega
  have hT2 : ((n2 : Int) + 1).toNat = n2 + 1 := by omega
  have hT3 : ((n3 : Int) + 1).toNat = n3 + 1 := by omega
  have hW1' : IntKind.i64.wrap ((n1 : Int) + 1) = (n1 : Int) + 1 := IntWalk.i64_in _ (by omega)
  have hW2' : IntKind.i64.wrap ((n2 : Int) + 1) = (n2 : Int) + 1 := IntWalk.i64_in _ (by omega)
  have hW3' : IntKind.i64.wrap ((n3 : Int) + 1) = (n3 : Int) + 1 := IntWalk.i64_in _ (by omega)
  have HF := Lib.hid hf
  have HWA := Lib.hid (And.intro hW1 hW2)
  have HSS := Lib.hid hS
  rw [hS] at HSW hSd
  clear hSW hS HS p0 p1 p2 p3 p4 q0 q1 q2 q3 q4 r1 r2 r3 hf hf1 hf2 b1 b2 hW1 hW2 hs1 h1 h2 h3 hn1 hn2 hn3 hk hcn hv hu hv0 hu0
  go_enter Tryz.func12, Tryz.ntmps12
  go_upto_region 1 with fail
  rw [← HWA.out.1, ← HWA.out.2]
  go_region_held3 (fun w1 => w1.cell? ⟨w.heap.size, 0, none⟩ = some (.int .i64 k) ∧ w1.cell? ⟨w.heap.size, 1, none⟩ = some (.int .i64 cn) ∧ w1.cell? ⟨w.heap.size, 2, none⟩ = some (.slice (some ⟨g1, 0, none⟩) n1 c1) ∧ w1.cell? ⟨w.heap.size, 3, none⟩ = some (.slice (some ⟨g2, 0, none⟩) n2 c2) ∧ w1.cell? ⟨w.heap.size, 4, none⟩ = some (.slice (some ⟨g3, 0, none⟩) n3 c3) ∧ w1.cell? ⟨w.heap.size + 1, 0, none⟩ = some (.int .i64 k) ∧ w1.cell? ⟨w.heap.size + 1, 1, none⟩ = some (.int .i64 cn) ∧ w1.cell? ⟨w.heap.size + 1, 2, none⟩ = some (.slice a1 n1 d1) ∧ w1.cell? ⟨w.heap.size + 1, 3, none⟩ = some (.slice a2 n2 d2) ∧ w1.cell? ⟨w.heap.size + 1, 4, none⟩ = some (.slice a3 n3 d3) ∧ w1.cell? ⟨g1, n1, none⟩ = some (.int .u8 165) ∧ w1.cell? ⟨g2, n2 * 2 + 1, none⟩ = some (.int .i64 77) ∧ w1.cell? ⟨g3, n3, none⟩ = some (.int .i64 77)) (assumption) (first | (go_at_call 14; refine (HSW.out _ rfl).mono ?_; rintro e' W3 ⟨rfl, hS3, hF3⟩))
  go_wp2_with fail
  go_ret
  exact ⟨rfl, hF3.out⟩
end Go.Proofs.YtjidpccgjiogbaaGreatDoor
