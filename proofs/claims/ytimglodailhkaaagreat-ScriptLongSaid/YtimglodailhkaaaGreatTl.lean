/-
  The teller's line: the words of an event behind its head.
-/
import Derived.Test.YtimglodailhkaaaGreatTf
import Derived.Test.YtimglodailhkaaaGreatPa
namespace Go.Proofs.YtimglodailhkaaaGreat
open Go Go.RowKit
/-- The table, if a number of the event asks it. -/
structure TabE (e : Ev) (w : World) : Prop where
  conn : TabN e.conn w
  fates : ∀ f ∈ e.fates, TabN f.2 w
  picks : ∀ n ∈ e.picks, TabN n w
theorem TabE.of {e : Ev} {w : World} (h : Tab w) : TabE e w := ⟨fun _ => h, fun _ _ _ => h, fun _ _ _ => h⟩
theorem TabE.fr {e : Ev} {w W : World} (ht : TabE e w) (h : Fr No w W) : TabE e W := ⟨ht.conn.fr h, fun f hf => (ht.fates f hf).fr h, fun n hn => (ht.picks n hn).fr h⟩
theorem nil_tnumber (a : Addr) (w : World) : (nilAhead 280 81 (.pointer (some a)) "lexicon/script.number").run Tryz.prog w = .ok (some false) w := by kernel_rfl
theorem met_tnumber (a : Addr) (w : World) : (method 280 81 (.pointer (some a)) "lexicon/script.number").run Tryz.prog w = .ok (123, .pointer (some a)) w := by kernel_rfl
theorem nil_tdigits (a : Addr) (w : World) : (nilAhead 280 81 (.pointer (some a)) "lexicon/script.digits").run Tryz.prog w = .ok (some false) w := by kernel_rfl
theorem met_tdigits (a : Addr) (w : World) : (method 280 81 (.pointer (some a)) "lexicon/script.digits").run Tryz.prog w = .ok (121, .pointer (some a)) w := by kernel_rfl
theorem nil_tfates (a : Addr) (w : World) : (nilAhead 280 81 (.pointer (some a)) "lexicon/script.fates").run Tryz.prog w = .ok (some false) w := by kernel_rfl
theorem met_tfates (a : Addr) (w : World) : (method 280 81 (.pointer (some a)) "lexicon/script.fates").run Tryz.prog w = .ok (122, .pointer (some a)) w := by kernel_rfl
theorem nil_tpicks (a : Addr) (w : World) : (nilAhead 280 81 (.pointer (some a)) "lexicon/script.picks").run Tryz.prog w = .ok (some false) w := by kernel_rfl
theorem met_tpicks (a : Addr) (w : World) : (method 280 81 (.pointer (some a)) "lexicon/script.picks").run Tryz.prog w = .ok (124, .pointer (some a)) w := by kernel_rfl
theorem nil_rnumber (a : Addr) (w : World) : (nilAhead 280 68 (.pointer (some a)) "lexicon/script.number").run Tryz.prog w = .ok (some false) w := by kernel_rfl
theorem met_rnumber (a : Addr) (w : World) : (method 280 68 (.pointer (some a)) "lexicon/script.number").run Tryz.prog w = .ok (71, .pointer (some a)) w := by kernel_rfl
theorem nil_rdigits (a : Addr) (w : World) : (nilAhead 280 68 (.pointer (some a)) "lexicon/script.digits").run Tryz.prog w = .ok (some false) w := by kernel_rfl
theorem met_rdigits (a : Addr) (w : World) : (method 280 68 (.pointer (some a)) "lexicon/script.digits").run Tryz.prog w = .ok (69, .pointer (some a)) w := by kernel_rfl
theorem nil_rfates (a : Addr) (w : World) : (nilAhead 280 68 (.pointer (some a)) "lexicon/script.fates").run Tryz.prog w = .ok (some false) w := by kernel_rfl
theorem met_rfates (a : Addr) (w : World) : (method 280 68 (.pointer (some a)) "lexicon/script.fates").run Tryz.prog w = .ok (70, .pointer (some a)) w := by kernel_rfl
theorem nil_rpicks (a : Addr) (w : World) : (nilAhead 280 68 (.pointer (some a)) "lexicon/script.picks").run Tryz.prog w = .ok (some false) w := by kernel_rfl
theorem met_rpicks (a : Addr) (w : World) : (method 280 68 (.pointer (some a)) "lexicon/script.picks").run Tryz.prog w = .ok (72, .pointer (some a)) w := by kernel_rfl
theorem pick_len (n : Int) (h : i64 n) : (pick31 n).length ≤ 30 := by
  have h1 := itoa_small n h
  have e : (pick31 n).length = (Lib.itoa n).length + 1 := by simp [pick31]
  omega
/-- What stands behind an event's head. -/
def tail31 (e : Ev) : Bytes :=
  if e.kind = 2 then pick31 e.conn ++ 32 :: hex31 e.bytes
  else if e.kind = 3 then pick31 e.conn
  else if e.kind = 4 then e.fates.flatMap fate31
  else if e.kind = 5 then e.picks.flatMap pick31
  else []
set_option maxRecDepth 100000 in
set_option maxHeartbeats 4000000 in
theorem tline_any (W0 : World) (b : Nat) (l : Bytes) (E : Nat) (a1 : Option Addr) (c1 : Nat) (a2 : Option Addr) (c2 : Nat) (a3 : Option Addr) (c3 : Nat) (e : Ev) (w : World)
    (h : IsB TT W0.heap.size b l w) (hw : Below W0.heap.size W0 w) (hE : W0.heap[E]? = some (.cells #[.int .i64 e.kind, .int .i64 e.conn, .slice a1 e.bytes.length c1, .slice a2 e.fates.length c2, .slice a3 e.picks.length c3] 28 (0, 0)))
    (h1 : CellsAt W0 a1 (byteCs e.bytes)) (h2 : CellsAt W0 a2 (fateCs e.fates)) (h3 : CellsAt W0 a3 (intCs e.picks)) (hm : may31 e = true) (hn : e.nums) (hl : l.length ≤ 1000) (ht : TabE e W0) :
    Calls Tryz.prog 25 #[.iface 81 (.pointer (some ⟨b, 0, none⟩)), .pointer (some ⟨E, 0, none⟩)] w fun en w' => en = .returned (.tuple #[]) ∧ IsB TT W0.heap.size b (l ++ tail31 e) w' ∧ Below W0.heap.size w w' := by
  have hmf : ∀ (fn : Fn) (first cap : Array Value) (w : World), (Instr.makeFunc fn first cap).run Tryz.prog w = .ok (.func fn first cap) w := fun _ _ _ _ => rfl
  have hEw := (hw.block E (lt_of_block hE)).trans hE
  have hEl := lt_of_block hE
  obtain ⟨⟨p0, p1, p2, p3, p4⟩, _⟩ := res_cells hEw
  obtain ⟨⟨q0, q1, q2, q3, q4⟩, _⟩ := res_cells hE
  obtain ⟨hk, _, _, _, _, _, hs1, hs2, hs3⟩ := may_parts hm
  obtain ⟨hn1, hn2, hn3⟩ := hn
  unfold tail31
  obtain ⟨n1, hb1⟩ : ∃ n1, e.bytes.length = n1 := ⟨_, rfl⟩
  obtain ⟨n2, hb2⟩ : ∃ n2, e.fates.length = n2 := ⟨_, rfl⟩
  obtain ⟨n3, hb3⟩ : ∃ n3, e.picks.length = n3 := ⟨_, rfl⟩
  obtain ⟨cn, hcn⟩ : ∃ cn, e.conn = cn := ⟨_, rfl⟩
  rw [hb1] at p2 q2 hs1
  rw [hb2] at p3 q3 hs2
  rw [hb3] at p4 q4 hs3
  rw [hcn] at p1 q1 hn1
  have HNUM : Hid (∀ (l' : Bytes) (wx : World), l'.length ≤ 1000000 → IsB TT W0.heap.size b l' wx → Below W0.heap.size W0 wx → Calls Tryz.prog 123 #[.pointer (some ⟨b, 0, none⟩), .pointer (some ⟨E, 1, none⟩)] wx fun en w' => en = .returned (.tuple #[]) ∧ Hid (IsB TT W0.heap.size b (l' ++ pick31 cn) w' ∧ Below W0.heap.size wx w')) := Lib.hid (fun l' wx k1 k2 k3 => (tnumber_any W0.heap.size b l' ⟨E, 1, none⟩ cn wx k2 ((k3.cell hEl).trans q1) hn1 (by omega) k3.size (TabN.below (by rw [← hcn]; exact ht.conn) k3)).mono (fun en w' ⟨j1, j2, j3⟩ => ⟨j1, Lib.hid ⟨j2, j3⟩⟩))
  have HDIG : Hid (∀ (l' : Bytes) (wx : World), l'.length ≤ 1000000 → IsB TT W0.heap.size b l' wx → Below W0.heap.size W0 wx → Calls Tryz.prog 121 #[.pointer (some ⟨b, 0, none⟩), .pointer (some ⟨E, 2, none⟩)] wx fun en w' => en = .returned (.tuple #[]) ∧ Hid (IsB TT W0.heap.size b (l' ++ 32 :: hex31 e.bytes) w' ∧ Below W0.heap.size wx w')) := Lib.hid (fun l' wx k1 k2 k3 => (tdigits_any W0 b l' ⟨E, 2, none⟩ a1 c1 n1 e.bytes wx k2 k3 hEl q2 hb1 h1 (by omega)).mono (fun en w' ⟨j1, j2, j3⟩ => ⟨j1, Lib.hid ⟨j2, j3⟩⟩))
  have HFAT : Hid (∀ (l' : Bytes) (wx : World), l'.length ≤ 1000000 → IsB TT W0.heap.size b l' wx → Below W0.heap.size W0 wx → Calls Tryz.prog 122 #[.pointer (some ⟨b, 0, none⟩), .pointer (some ⟨E, 3, none⟩)] wx fun en w' => en = .returned (.tuple #[]) ∧ Hid (IsB TT W0.heap.size b (l' ++ e.fates.flatMap fate31) w' ∧ Below W0.heap.size wx w')) := Lib.hid (fun l' wx k1 k2 k3 => (tfates_any W0 b l' ⟨E, 3, none⟩ a2 c2 n2 e.fates wx k2 k3 hEl q3 hb2 h2 hn2 (by omega) ht.fates).mono (fun en w' ⟨j1, j2, j3⟩ => ⟨j1, Lib.hid ⟨j2, j3⟩⟩))
  have HPIC : Hid (∀ (l' : Bytes) (wx : World), l'.length ≤ 1000000 → IsB TT W0.heap.size b l' wx → Below W0.heap.size W0 wx → Calls Tryz.prog 124 #[.pointer (some ⟨b, 0, none⟩), .pointer (some ⟨E, 4, none⟩)] wx fun en w' => en = .returned (.tuple #[]) ∧ Hid (IsB TT W0.heap.size b (l' ++ e.picks.flatMap pick31) w' ∧ Below W0.heap.size wx w')) := Lib.hid (fun l' wx k1 k2 k3 => (tpicks_any W0 b l' ⟨E, 4, none⟩ a3 c3 n3 e.picks wx k2 k3 hEl q4 hb3 h3 hn3 (by omega) ht.picks).mono (fun en w' ⟨j1, j2, j3⟩ => ⟨j1, Lib.hid ⟨j2, j3⟩⟩))
  have HI := Lib.hid (And.intro h (And.intro hw hl))
  have HC := Lib.hid hcn
  obtain ⟨k, hk0⟩ : ∃ k, e.kind = k := ⟨_, rfl⟩
  rw [hk0] at hk p0 ⊢
  clear h hw hE h1 h2 h3 hm hl ht hEw hn2 hn3 q0 q1 q2 q3 q4 hb1 hb2 hb3 hk0 hcn
  rcases hk with rfl | rfl | rfl | rfl | rfl
  · go_enter Tryz.func25, Tryz.ntmps25
    go_wp2_with fail
    exact ⟨rfl, _, results_none rfl _ _ _, rfl, by simpa using HI.out.1, Below.refl _ _⟩
  · have nn := nil_tnumber ⟨b, 0, none⟩
    have mm := met_tnumber ⟨b, 0, none⟩
    have nd := nil_tdigits ⟨b, 0, none⟩
    have md := met_tdigits ⟨b, 0, none⟩
    have HN := Lib.hid (HNUM.out l w.drew (by have := HI.out.2.2; omega) HI.out.1.drew (HI.out.2.1.trans (below_drew w)))
    have hl2 := pick_len cn hn1
    go_enter Tryz.func25, Tryz.ntmps25
    go_upto_region 2 with fail
    go_region_with (go_at_call 123; refine HN.out.mono ?_; rintro en wa ⟨rfl, HA⟩)
    have HB : Hid (Below W0.heap.size w wa) := Lib.hid ((below_drew w).trans HA.out.2)
    have HD := Lib.hid (HDIG.out (l ++ pick31 cn) wa.drew (by have := HI.out.2.2; rw [List.length_append]; omega) HA.out.1.drew ((HI.out.2.1.trans HB.out).trans (below_drew wa)))
    go_upto_region 3 with fail
    go_region_with (go_at_call 121; refine HD.out.mono ?_; rintro en wb ⟨rfl, HE⟩)
    go_wp2_with fail
    refine ⟨rfl, _, results_none rfl _ _ _, rfl, ?_, (HB.out.trans (below_drew wa)).trans HE.out.2⟩
    have h := HE.out.1
    rw [List.append_assoc] at h
    rw [HC.out]
    exact h
  · have nn := nil_tnumber ⟨b, 0, none⟩
    have mm := met_tnumber ⟨b, 0, none⟩
    have HN := Lib.hid (HNUM.out l w.drew (by have := HI.out.2.2; omega) HI.out.1.drew (HI.out.2.1.trans (below_drew w)))
    go_enter Tryz.func25, Tryz.ntmps25
    go_upto_region 5 with fail
    go_region_with (go_at_call 123; refine HN.out.mono ?_; rintro en wa ⟨rfl, HA⟩)
    go_wp2_with fail
    refine ⟨rfl, _, results_none rfl _ _ _, rfl, ?_, (below_drew w).trans HA.out.2⟩
    have h := HA.out.1
    rw [HC.out]
    exact h
  · have nn := nil_tfates ⟨b, 0, none⟩
    have mm := met_tfates ⟨b, 0, none⟩
    have HN := Lib.hid (HFAT.out l w.drew (by have := HI.out.2.2; omega) HI.out.1.drew (HI.out.2.1.trans (below_drew w)))
    go_enter Tryz.func25, Tryz.ntmps25
    go_upto_region 7 with fail
    go_region_with (go_at_call 122; refine HN.out.mono ?_; rintro en wa ⟨rfl, HA⟩)
    go_wp2_with fail
    exact ⟨rfl, _, results_none rfl _ _ _, rfl, HA.out.1, (below_drew w).trans HA.out.2⟩
  · have nn := nil_tpicks ⟨b, 0, none⟩
    have mm := met_tpicks ⟨b, 0, none⟩
    have HN := Lib.hid (HPIC.out l w.drew (by have := HI.out.2.2; omega) HI.out.1.drew (HI.out.2.1.trans (below_drew w)))
    go_enter Tryz.func25, Tryz.ntmps25
    go_upto_region 9 with fail
    go_region_with (go_at_call 124; refine HN.out.mono ?_; rintro en wa ⟨rfl, HA⟩)
    go_wp2_with fail
    exact ⟨rfl, _, results_none rfl _ _ _, rfl, HA.out.1, (below_drew w).trans HA.out.2⟩
end Go.Proofs.YtimglodailhkaaaGreat
