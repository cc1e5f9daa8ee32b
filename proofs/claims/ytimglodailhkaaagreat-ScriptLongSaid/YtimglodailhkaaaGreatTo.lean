/-
  told walked: an event's line by the teller; script.Line.
-/
import Derived.Test.YtimglodailhkaaaGreatTl
import Derived.Test.YtimglodailhkaaaGreatWr
namespace Go.Proofs.YtimglodailhkaaaGreat
open Go Go.RowKit
set_option maxHeartbeats 2000000 in
set_option maxRecDepth 100000 in
theorem bstring_any (B b : Nat) (l : Bytes) (w : World) {T : TypeId} (h : IsB T B b l w) (h0 : l ≠ []) :
    Calls Tryz.prog 17 #[.pointer (some ⟨b, 0, none⟩)] w fun e w' => e = .returned (.string (strB l)) ∧ Below B w w' := by
  obtain ⟨p, _, v, hbk, hown, _⟩ : ∃ p, Lib.BuilderAt T 5 B b p (Lib.byteCells l) w := by
    rcases h with h | h
    · exact ⟨_, h⟩
    · exact ⟨_, h⟩
  have hl0 : l.length ≠ 0 := by simpa using h0
  rw [Lib.byteCells_length] at hown
  obtain ⟨n, hn⟩ : ∃ n, l.length = n := ⟨_, rfl⟩
  rw [hn] at hown hl0
  obtain ⟨g, cap, cur, rfl, hbg, hg, hnc, hcm, hcs, htake⟩ : ∃ g cap cur, v = .slice (some ⟨g, 0, none⟩) n cap ∧ B ≤ g ∧ w.heap[g]? = some (.cells cur 5 (0, 0)) ∧ n ≤ cap ∧ cap ≤ maxLen ∧ cur.size = cap * 1 ∧ cur.toList.take (n * 1) = Lib.byteCells l := by
    rcases hown.2 with ⟨_, hz⟩ | ⟨g, cap, cur, hv, r⟩
    · exact absurd hz hl0
    · exact ⟨g, cap, cur, hv, r⟩
  unfold maxLen at hcm
  have c1 : w.drew.cell? ⟨b, 1, none⟩ = some (.slice (some ⟨g, 0, none⟩) n cap) := by
    have : w.drew.heap[b]? = some (.cells #[p, .slice (some ⟨g, 0, none⟩) n cap] T (0, 0)) := hbk
    rw [Lib.cell_of_heap this]; rfl
  have hSD : (Builtin.unsafeSliceData_ #[24] 84 #[.slice (some ⟨g, 0, none⟩) n cap]).run Tryz.prog w.drew = .ok (.pointer (some ⟨g, 0, none⟩)) w.drew :=
    Lib.run_unsafeSliceData_row _ _ _ _ _ _ (by omega)
  have hUS : (Builtin.unsafeString_ #[84, 3] 9 #[.pointer (some ⟨g, 0, none⟩), .int .i64 n]).run Tryz.prog w.drew = .ok (.string (strB l)) (w.drew.freeze ⟨g, 0, none⟩ n) := by
    rw [← hn]
    refine Lib.run_unsafeString_row w.drew 84 3 9 5 (Tryz.underlying84) (by kernel_rfl) g cur.size (by have hg' : w.drew.heap[g]? = some (.cells cur 5 (0, 0)) := hg; simp [World.shape?, hg']) l h0 (by omega) (by omega) ?_
    intro j x hx
    have := hown.cells (g := g) rfl j (.int .u8 x.toNat) (by simp [Lib.byteCells, hx])
    exact this
  have HG := Lib.hid hbg
  clear h hbk hown hn hg htake hcs hbg h0
  go_enter Tryz.func17, Tryz.ntmps17
  go_wp2_with fail
  go_region
  all_goals (go_wp2_with fail; go_ret; exact ⟨rfl, Lib.below_freeze (Below.drew (Below.refl B w)) (p := ⟨g, 0, none⟩) HG.out _⟩)
def headB (k : Int) : Bytes := if k = 1 then connectB else if k = 2 then sendB else if k = 3 then closeB else if k = 4 then feedB else crashB
theorem line_parts (e : Ev) (hm : may31 e = true) : line31 e = headB e.kind ++ tail31 e := by
  obtain ⟨hk, _⟩ := may_parts hm
  obtain ⟨k, cn, bs, fs, ps⟩ := e
  dsimp only at hk
  rcases hk with rfl | rfl | rfl | rfl | rfl
  · rfl
  · unfold line31 headB tail31 pick31
    simp
  · unfold line31 headB tail31 pick31
    simp
  · rfl
  · rfl
def headRow : Obj := .cells #[.string (strB []), .string (strB connectB), .string (strB sendB), .string (strB closeB), .string (strB feedB), .string (strB crashB)] 9
set_option maxHeartbeats 2000000 in
set_option maxRecDepth 100000 in
theorem heads_any (w : World) : Calls Tryz.prog 24 #[] w fun e w' => e = .returned (.slice (some ⟨w.heap.size, 0, none⟩) 6 6) ∧ w.alloc headRow = w' := by
  go_enter Tryz.func24, Tryz.ntmps24
  go_wp2_with fail
  go_ret
  exact ⟨rfl, rfl⟩
theorem head_cell (w : World) (k : Nat) (h1 : 1 ≤ k) (h2 : k ≤ 5) : (w.alloc headRow).cell? ⟨w.heap.size, k, none⟩ = some (.string (strB (headB k))) := by
  have h := heap_alloc_new w headRow
  unfold World.cell?
  rw [h]
  match k, h1, h2 with
  | 1, _, _ => rfl
  | 2, _, _ => rfl
  | 3, _, _ => rfl
  | 4, _, _ => rfl
  | 5, _, _ => rfl
set_option maxHeartbeats 4000000 in
set_option maxRecDepth 100000 in
theorem told_any (v : Value) (e : Ev) (w : World) (hv : EvAt w v e) (hm : may31 e = true) (hn : e.nums) (ht : TabE e w) :
    Calls Tryz.prog 15 #[v] w fun en w' => en = .returned (.string (strB (line31 e))) ∧ Fr No w w' := by
  obtain ⟨a1, c1, a2, c2, a3, c3, rfl, x1, x2, x3⟩ := hv.form
  clear hv
  obtain ⟨W0, hW0⟩ : ∃ W0, W0 = w.alloc (.cells #[.int .i64 e.kind, .int .i64 e.conn, .slice a1 e.bytes.length c1, .slice a2 e.fates.length c2, .slice a3 e.picks.length c3] 28) := ⟨_, rfl⟩
  obtain ⟨W1, hW1⟩ : ∃ W1, W1 = W0.alloc (.cells #[.pointer none, .slice none 0 0] 83) := ⟨_, rfl⟩
  have hf0 : Fr No w W0 := by rw [hW0]; exact (Fr.refl _ _).alloc _
  have hf1 : Fr No W0 W1 := by rw [hW1]; exact (Fr.refl _ _).alloc _
  have hE : W0.heap[w.heap.size]? = some (.cells #[.int .i64 e.kind, .int .i64 e.conn, .slice a1 e.bytes.length c1, .slice a2 e.fates.length c2, .slice a3 e.picks.length c3] 28 (0, 0)) := by rw [hW0]; exact heap_alloc_new w _
  have hs0 : W0.heap.size = w.heap.size + 1 := by rw [hW0]; simp
  have hbk : W1.heap[W0.heap.size]? = some (.cells #[.pointer none, .slice none 0 0] 83 (0, 0)) := by rw [hW1]; exact heap_alloc_new W0 _
  have hIB : IsB TT W0.heap.size W0.heap.size [] W1 := .inl ⟨Nat.le_refl _, _, hbk, World.ownsRow_nil _ _ _ _, by simp [Value.ownBlock]⟩
  obtain ⟨hkk, _⟩ := may_parts hm
  obtain ⟨k, hk⟩ : ∃ k : Nat, e.kind = k := ⟨e.kind.toNat, by omega⟩
  have hk1 : 1 ≤ k := by omega
  have hk5 : k ≤ 5 := by omega
  have hki : (k : Int) < 6 := by omega
  have hk0 : (0 : Int) ≤ (k : Int) := by omega
  obtain ⟨WH, hWH⟩ : ∃ WH, WH = W1.drew.alloc headRow := ⟨_, rfl⟩
  have hf2 : Fr No W1 WH := by rw [hWH]; exact ((Fr.refl _ _).drew).alloc _
  have cH : WH.cell? ⟨W1.heap.size, k, none⟩ = some (.string (strB (headB k))) := by rw [hWH]; exact head_cell W1.drew k hk1 hk5
  have HH : Hid (Calls Tryz.prog 24 #[] W1.drew fun en w' => en = .returned (.slice (some ⟨W1.heap.size, 0, none⟩) 6 6) ∧ WH = w') := Lib.hid (by rw [hWH]; exact heads_any W1.drew)
  obtain ⟨hl, hhl⟩ : ∃ hl, hl = headB k := ⟨_, rfl⟩
  obtain ⟨HS, hHS⟩ : ∃ HS, HS = strB hl := ⟨_, rfl⟩
  have hlen : hl.length ≤ 10 := by
    rw [hhl]
    match k, hk1, hk5 with
    | 1, _, _ => decide
    | 2, _, _ => decide
    | 3, _, _ => decide
    | 4, _, _ => decide
    | 5, _, _ => decide
  rw [← hhl, ← hHS] at cH
  have hsH : HS.size = hl.length := by rw [hHS]; simp [strB, ByteArray.size]
  have HWS : Hid (Calls Tryz.prog 14 #[.pointer (some ⟨W0.heap.size, 0, none⟩), .string HS] WH fun en w' => ∃ n, en = .returned (.tuple #[.int .i64 n, .nilIface]) ∧ Hid (IsB TT W0.heap.size W0.heap.size hl w' ∧ Below W0.heap.size W0 w')) := Lib.hid ((writeString_any W0.heap.size W0.heap.size [] HS WH bu_teller (hIB.no hf2) (by simp; omega) (Nat.le_trans hf1.size hf2.size)).mono (fun en w' ⟨h1, h2, h3, _⟩ => ⟨_, h1, Lib.hid ⟨by rw [hHS] at h2; exact h2, (Below.trans (below_fr (hf1.trans_same hf2) (Nat.le_refl _)) h3)⟩⟩))
  have HLI : Hid (∀ wa, IsB TT W0.heap.size W0.heap.size hl wa → Below W0.heap.size W0 wa → Calls Tryz.prog 25 #[.iface 81 (.pointer (some ⟨W0.heap.size, 0, none⟩)), .pointer (some ⟨w.heap.size, 0, none⟩)] wa fun en w' => en = .returned (.tuple #[]) ∧ Hid (IsB TT W0.heap.size W0.heap.size (line31 e) w' ∧ Below W0.heap.size W0 w')) := Lib.hid (fun wa k1 k2 => (tline_any W0 W0.heap.size hl w.heap.size a1 c1 a2 c2 a3 c3 e wa k1 k2 hE (x1.no hf0) (x2.no hf0) (x3.no hf0) hm hn (by omega) (ht.fr hf0)).mono (fun en w' ⟨h1, h2, h3⟩ => ⟨h1, Lib.hid ⟨by rw [line_parts e hm, hk, ← hhl]; exact h2, k2.trans h3⟩⟩))
  have hne : line31 e ≠ [] := by
    rw [line_parts e hm, hk]
    match k, hk1, hk5 with
    | 1, _, _ => intro h; cases h
    | 2, _, _ => intro h; cases h
    | 3, _, _ => intro h; cases h
    | 4, _, _ => intro h; cases h
    | 5, _, _ => intro h; cases h
  have HST : Hid (∀ wa, IsB TT W0.heap.size W0.heap.size (line31 e) wa → Calls Tryz.prog 17 #[.pointer (some ⟨W0.heap.size, 0, none⟩)] wa fun en w' => en = .returned (.string (strB (line31 e))) ∧ Hid (Below W0.heap.size wa w')) := Lib.hid (fun wa k1 => (bstring_any W0.heap.size W0.heap.size (line31 e) wa k1 hne).mono (fun en w' ⟨h1, h2⟩ => ⟨h1, Lib.hid h2⟩))
  have HF0 := Lib.hid hf0
  have HS0 := Lib.hid hs0
  have hE1 := hf1.at hE (fun h => h)
  have hE2 := hf2.at hE1 (fun h => h)
  rw [hk] at hE1 hE2 hW0
  obtain ⟨⟨p0, _, _, _, _⟩, _⟩ := res_cells hE1
  obtain ⟨⟨q0, _, _, _, _⟩, _⟩ := res_cells hE2
  clear hm hn ht x1 x2 x3 hE hE1 hE2 hIB hbk hf0 hf1 hf2 hs0 hWH hhl hHS hsH hne hkk hlen
  go_enter Tryz.func15, Tryz.ntmps15
  go_upto_region 2 with fail
  rw [← hW0, ← hW1, show w.heap.size + 1 = W0.heap.size from HS0.out.symm]
  clear hW0 hW1
  go_region_with (first | (go_at_call 24; refine HH.out.mono ?_; rintro en w' ⟨rfl, rfl⟩) | (go_at_call 14; refine HWS.out.mono ?_; rintro en wa ⟨n, rfl, HA⟩))
  all_goals
    go_wp2_with (first | (go_at_call 25; refine (HLI.out _ (by exact HA.out.1) (by exact HA.out.2)).mono ?_; rintro en wb ⟨rfl, HB⟩) | (go_at_call 17; refine (HST.out _ (by exact HB.out.1)).mono ?_; rintro en wc ⟨rfl, HC⟩))
    go_ret
    exact ⟨rfl, HF0.out.trans_no (Fr.ofBelow (HB.out.2.trans HC.out))⟩
end Go.Proofs.YtimglodailhkaaaGreat
