/-
  The document's Token walked.
-/
import Derived.Test.YtbdheihjnkfpiaaGreatDoorRj
import Derived.Test.YtbdheihjnkfpiaaGreatDoorRp
import Derived.Test.YtbdheihjnkfpiaaGreatDoorWo
import Derived.StillTailTactics
namespace Go.Proofs.YtbdheihjnkfpiaaGreatDoor
open Go Go.RowKit
def letB : Bytes := [97, 98, 99, 100, 101, 102, 103, 104, 105, 106, 107, 108, 109, 110, 111, 112, 113, 114, 115, 116, 117, 118, 119, 120, 121, 122, 65, 66, 67, 68, 69, 70, 71, 72, 73, 74, 75, 76, 77, 78, 79, 80, 81, 82, 83, 84, 85, 86, 87, 88, 89, 90, 95]
theorem let_cls (c : UInt8) : letB.contains c = (cls c == 1) := by
  have := all_bytes (fun c => letB.contains c == (cls c == 1)) (by decide +kernel) c
  simpa using this
theorem ten_two (c : UInt8) : isTen c = (cls c == 2) := by
  have := all_bytes (fun c => isTen c == (cls c == 2)) (by decide +kernel) c
  simpa using this
theorem quote_cls (c : UInt8) : (c == 34 || c == 39) = (cls c == 3) := by
  have := all_bytes (fun c => (c == 34 || c == 39) == (cls c == 3)) (by decide +kernel) c
  simpa using this
theorem rin_letters (c : UInt8) (w : World) : Calls Tryz.prog 44 #[.int .u8 c.toNat, .string ⟨#[97, 98, 99, 100, 101, 102, 103, 104, 105, 106, 107, 108, 109, 110, 111, 112, 113, 114, 115, 116, 117, 118, 119, 120, 121, 122, 65, 66, 67, 68, 69, 70, 71, 72, 73, 74, 75, 76, 77, 78, 79, 80, 81, 82, 83, 84, 85, 86, 87, 88, 89, 90, 95]⟩] w fun e w' => e = .returned (.bool (cls c == 1)) ∧ w' = w := by
  have h := rin_any c ⟨#[97, 98, 99, 100, 101, 102, 103, 104, 105, 106, 107, 108, 109, 110, 111, 112, 113, 114, 115, 116, 117, 118, 119, 120, 121, 122, 65, 66, 67, 68, 69, 70, 71, 72, 73, 74, 75, 76, 77, 78, 79, 80, 81, 82, 83, 84, 85, 86, 87, 88, 89, 90, 95]⟩ w (by decide)
  rw [← let_cls]
  exact h.mono fun _ _ h => ⟨h.1, h.2.symm⟩
theorem rin_two (c : UInt8) (w : World) : Calls Tryz.prog 44 #[.int .u8 c.toNat, .string ⟨#[48, 49, 50, 51, 52, 53, 54, 55, 56, 57]⟩] w fun e w' => e = .returned (.bool (cls c == 2)) ∧ w' = w := by
  rw [← ten_two]; exact rin_tens c w
theorem rrun_words (s : ByteArray) (k : Nat) (w : World) (hs : s.size ≤ 2147483640) (hk : k ≤ s.size) : Calls Tryz.prog 45 #[.string s, .int .i64 k, .string ⟨#[97, 98, 99, 100, 101, 102, 103, 104, 105, 106, 107, 108, 109, 110, 111, 112, 113, 114, 115, 116, 117, 118, 119, 120, 121, 122, 65, 66, 67, 68, 69, 70, 71, 72, 73, 74, 75, 76, 77, 78, 79, 80, 81, 82, 83, 84, 85, 86, 87, 88, 89, 90, 95, 48, 49, 50, 51, 52, 53, 54, 55, 56, 57]⟩] w
    fun e w' => e = .returned (.int .i64 ((k + wordLen (s.data.toList.drop k) : Nat))) ∧ w' = w := by
  have h := rrun_any s k ⟨#[97, 98, 99, 100, 101, 102, 103, 104, 105, 106, 107, 108, 109, 110, 111, 112, 113, 114, 115, 116, 117, 118, 119, 120, 121, 122, 65, 66, 67, 68, 69, 70, 71, 72, 73, 74, 75, 76, 77, 78, 79, 80, 81, 82, 83, 84, 85, 86, 87, 88, 89, 90, 95, 48, 49, 50, 51, 52, 53, 54, 55, 56, 57]⟩ w hs hk (by decide)
  unfold wordLen
  rw [← words_fun]
  exact h.mono fun _ _ h => ⟨h.1, h.2.symm⟩
/-- Token: the token, behind it, no error; or none, the place, the error. -/
def RTokPost (k : Nat) (r : Except Nat (Nat × Bytes × Nat × Nat)) (w : World) (e : Ending) (w' : World) : Prop :=
  Fr No w w' ∧ match r with
  | .ok (kd, t, x, n) => e = .returned (.tuple #[tokV ⟨kd, k, t, x⟩, .int .i64 ((k + n : Nat)), .int .i64 0])
  | .error c => e = .returned (.tuple #[tokV ⟨0, 0, [], 0⟩, .int .i64 k, .int .i64 c])
theorem results_rtok (tmps : Array Value) (w : World) (g : Nat) (cs : Array Value) (x y : Value) (h4 : tmps.getD 4 undef = .pointer (some ⟨g, 0, none⟩)) (hg : w.heap[g]? = some (.cells cs 33 (0, 0))) (hs : cs.size = 4) (h5 : tmps.getD 5 undef = x) (h6 : tmps.getD 6 undef = y) :
    (results Tryz.f24 tmps).run Tryz.prog w = .ok (.tuple #[.agg cs, x, y]) w := by
  have h4' : tmps[4]?.getD undef = .pointer (some ⟨g, 0, none⟩) := by simpa using h4
  have h5' : tmps[5]?.getD undef = x := by simpa using h5
  have h6' : tmps[6]?.getD undef = y := by simpa using h6
  have hl := run_loadVar_row (P := Tryz.prog) w g 33 33 cs (0, 0) _ hg Tryz.underlying33 rfl (by rw [hs]; exact tokSize)
  simp [results, Tryz.results24, h4', h5', h6', asAddr, hl]
/-- What Token's variables hold: the token's and the result's. -/
structure RS (w : World) (kd at_ : Int) (txt : ByteArray) (num : Int) (W : World) : Prop where
  tk : W.heap[w.heap.size + 1]? = some (.cells #[.int .i64 kd, .int .i64 at_, .string txt, .int .u64 num] 33 (0, 0))
  rs : W.heap[w.heap.size]? = some (.cells #[.int .i64 0, .int .i64 0, .string ⟨#[]⟩, .int .u64 0] 33 (0, 0))
  fr : Fr No w W
theorem RS.start {w : World} {at_ : Int} :
    RS w 0 at_ ⟨#[]⟩ 0 ((w.alloc (.cells #[.int .i64 0, .int .i64 0, .string ⟨#[]⟩, .int .u64 0] 33)).alloc (.cells #[.int .i64 0, .int .i64 at_, .string ⟨#[]⟩, .int .u64 0] 33)) :=
  ⟨heap_alloc2_new w _ _, heap_alloc2_old w _ _, ((Fr.refl _ _).alloc _).alloc _⟩
theorem RS.drew {w : World} {kd at_ : Int} {txt : ByteArray} {num : Int} {W : World} (h : RS w kd at_ txt num W) : RS w kd at_ txt num W.drew := ⟨h.tk, h.rs, h.fr.drew⟩
theorem RS.call {w : World} {kd at_ : Int} {txt : ByteArray} {num : Int} {W W' : World} (h : RS w kd at_ txt num W) (hf : Fr No W W') : RS w kd at_ txt num W' :=
  ⟨hf.at h.tk id, hf.at h.rs id, h.fr.trans_same hf⟩
theorem RS.cells {w : World} {kd at_ : Int} {txt : ByteArray} {num : Int} {W : World} (h : RS w kd at_ txt num W) :
    (W.cell? ⟨w.heap.size + 1, 0, none⟩ = some (.int .i64 kd) ∧ W.cell? ⟨w.heap.size + 1, 1, none⟩ = some (.int .i64 at_) ∧ W.cell? ⟨w.heap.size + 1, 2, none⟩ = some (.string txt) ∧ W.cell? ⟨w.heap.size + 1, 3, none⟩ = some (.int .u64 num)) ∧
    (W.frozen? ⟨w.heap.size + 1, 0, none⟩ = false ∧ W.frozen? ⟨w.heap.size + 1, 2, none⟩ = false ∧ W.frozen? ⟨w.heap.size + 1, 3, none⟩ = false) :=
  ⟨⟨by simp [World.cell?, h.tk], by simp [World.cell?, h.tk], by simp [World.cell?, h.tk], by simp [World.cell?, h.tk]⟩, by simp [World.frozen?, h.tk], by simp [World.frozen?, h.tk], by simp [World.frozen?, h.tk]⟩
theorem RS.res {w : World} {kd at_ : Int} {txt : ByteArray} {num : Int} {W : World} (h : RS w kd at_ txt num W) :
    (W.cell? ⟨w.heap.size, 0, none⟩ = some (.int .i64 0) ∧ W.cell? ⟨w.heap.size, 1, none⟩ = some (.int .i64 0) ∧ W.cell? ⟨w.heap.size, 2, none⟩ = some (.string ⟨#[]⟩) ∧ W.cell? ⟨w.heap.size, 3, none⟩ = some (.int .u64 0)) ∧
    (W.frozen? ⟨w.heap.size, 0, none⟩ = false ∧ W.frozen? ⟨w.heap.size, 1, none⟩ = false ∧ W.frozen? ⟨w.heap.size, 2, none⟩ = false ∧ W.frozen? ⟨w.heap.size, 3, none⟩ = false) :=
  ⟨⟨by simp [World.cell?, h.rs], by simp [World.cell?, h.rs], by simp [World.cell?, h.rs], by simp [World.cell?, h.rs]⟩, by simp [World.frozen?, h.rs], by simp [World.frozen?, h.rs], by simp [World.frozen?, h.rs], by simp [World.frozen?, h.rs]⟩
theorem RS.setK {w : World} {kd at_ : Int} {txt : ByteArray} {num : Int} {W : World} (h : RS w kd at_ txt num W) (x : Int) : RS w x at_ txt num (W.setCell ⟨w.heap.size + 1, 0, none⟩ (.int .i64 x)) :=
  ⟨(heap_setCell_same _ _ _ _ _ _ h.tk).trans rfl, (heap_setCell_other _ _ _ _ (by show w.heap.size ≠ w.heap.size + 1; omega)).trans h.rs, h.fr.setNew _ _ (by simp)⟩
theorem RS.setT {w : World} {kd at_ : Int} {txt : ByteArray} {num : Int} {W : World} (h : RS w kd at_ txt num W) (x : ByteArray) : RS w kd at_ x num (W.setCell ⟨w.heap.size + 1, 2, none⟩ (.string x)) :=
  ⟨(heap_setCell_same _ _ _ _ _ _ h.tk).trans rfl, (heap_setCell_other _ _ _ _ (by show w.heap.size ≠ w.heap.size + 1; omega)).trans h.rs, h.fr.setNew _ _ (by simp)⟩
theorem RS.setN {w : World} {kd at_ : Int} {txt : ByteArray} {num : Int} {W : World} (h : RS w kd at_ txt num W) (x : Int) : RS w kd at_ txt x (W.setCell ⟨w.heap.size + 1, 3, none⟩ (.int .u64 x)) :=
  ⟨(heap_setCell_same _ _ _ _ _ _ h.tk).trans rfl, (heap_setCell_other _ _ _ _ (by show w.heap.size ≠ w.heap.size + 1; omega)).trans h.rs, h.fr.setNew _ _ (by simp)⟩
theorem RS.fin {w : World} {kd at_ : Int} {txt : ByteArray} {num : Int} {W : World} (h : RS w kd at_ txt num W) (y0 y1 : Int) (y2 : ByteArray) (y3 : Int) :
    ((((W.setCell ⟨w.heap.size, 0, none⟩ (.int .i64 y0)).setCell ⟨w.heap.size, 1, none⟩ (.int .i64 y1)).setCell ⟨w.heap.size, 2, none⟩ (.string y2)).setCell ⟨w.heap.size, 3, none⟩ (.int .u64 y3)).heap[w.heap.size]? = some (.cells #[.int .i64 y0, .int .i64 y1, .string y2, .int .u64 y3] 33 (0, 0)) ∧
    Fr No w ((((W.setCell ⟨w.heap.size, 0, none⟩ (.int .i64 y0)).setCell ⟨w.heap.size, 1, none⟩ (.int .i64 y1)).setCell ⟨w.heap.size, 2, none⟩ (.string y2)).setCell ⟨w.heap.size, 3, none⟩ (.int .u64 y3)) :=
  ⟨set_cell (set_cell (set_cell (set_cell h.rs 0 _) 1 _) 2 _) 3 _, (((h.fr.setNew _ _ (by simp)).setNew _ _ (by simp)).setNew _ _ (by simp)).setNew _ _ (by simp)⟩
theorem heap_drew (w : World) : w.drew.heap = w.heap := rfl
set_option maxRecDepth 100000 in
set_option maxHeartbeats 8000000 in
theorem rtoken_name (s : ByteArray) (k : Nat) (c : UInt8) (w : World) (hs : s.size ≤ 1000000000) (hk : k < s.size) (hc : s[k] = c) (h1 : cls c = 1) :
    Calls Tryz.prog 24 #[.string s, .int .i64 k] w (RTokPost k (.ok (1, (s.data.toList.drop k).take (wordLen (s.data.toList.drop k)), 0, wordLen (s.data.toList.drop k))) w) := by
  obtain ⟨n, hn⟩ : ∃ n, n = wordLen (s.data.toList.drop k) := ⟨_, rfl⟩
  have hnl : k + n ≤ s.size := by
    have := wordLen_le (s.data.toList.drop k)
    rw [← hn] at this
    simp at this
    have hsz : s.data.size = s.size := rfl
    omega
  have HR := Lib.hid (fun wx => (by have h := rrun_words s k wx (by omega) (by omega); rw [← hn] at h; exact h : Calls Tryz.prog 45 #[.string s, .int .i64 k, .string ⟨#[97, 98, 99, 100, 101, 102, 103, 104, 105, 106, 107, 108, 109, 110, 111, 112, 113, 114, 115, 116, 117, 118, 119, 120, 121, 122, 65, 66, 67, 68, 69, 70, 71, 72, 73, 74, 75, 76, 77, 78, 79, 80, 81, 82, 83, 84, 85, 86, 87, 88, 89, 90, 95, 48, 49, 50, 51, 52, 53, 54, 55, 56, 57]⟩] wx
    fun e w' => e = .returned (.int .i64 ((k + n : Nat))) ∧ w' = wx))
  rw [← hn]
  obtain ⟨e, he⟩ : ∃ e, k + n = e := ⟨_, rfl⟩
  rw [he] at HR
  have hes : e ≤ s.size := by omega
  have hke : k ≤ e := by omega
  obtain ⟨t, ht⟩ : ∃ t, s.extract k e = t := ⟨_, rfl⟩
  have HT : Hid (t = ⟨((s.data.toList.drop k).take n).toArray⟩) := Lib.hid (by rw [← ht, ← he]; exact bytes_eq (by rw [extract_list, Nat.add_sub_cancel_left]))
  have HE := Lib.hid he
  have HC : Hid ((cls c == 1) = true) := Lib.hid (by simp [h1])
  clear hn hnl he h1
  go_enter Tryz.func24, Tryz.ntmps24
  go_wp2_with (first | (go_at_call 44; refine (rin_letters c _).mono ?_; rintro e1 w1 ⟨rfl, rfl⟩; rw [HC.out]) | (go_at_call 45; refine (HR.out _).mono ?_; rintro e1 w1 ⟨rfl, rfl⟩))
  refine abs_world (RS w 0 k ⟨#[]⟩ 0) RS.start ?_
  intro W hW
  obtain ⟨⟨d0, d1, d2, d3⟩, g0, g2, g3⟩ := hW.cells
  obtain ⟨⟨e0, e1, e2, e3⟩, q0, q1, q2, q3⟩ := hW.res
  have HW := Lib.hid hW
  clear hW
  go_region
  go_wp2_with fail
  have hfin := ((HW.out.setK 1).setT t).fin 1 k t 0
  refine bodyPost_ret (v := .tuple #[.agg #[.int .i64 1, .int .i64 k, .string t, .int .u64 0], .int .i64 e, .int .i64 0]) (results_rtok _ _ w.heap.size _ _ _ rfl (by rw [heap_drew]; exact hfin.1) rfl rfl rfl) rfl ⟨hfin.2.drew, ?_⟩
  rw [HT.out, ← HE.out]; rfl
theorem numOf_err {s : Bytes} {e : Nat} (h : numOf s = .error e) : e = 240 ∨ e = 4 := by
  unfold numOf at h
  dsimp only at h
  generalize (if s.take 2 = [48, 120] ∨ s.take 2 = [48, 88] then s.drop 2 else s) = p at h
  generalize (if s.take 2 = [48, 120] ∨ s.take 2 = [48, 88] then isHex else if 1 < s.length ∧ s.head? = some 48 then isEight else isTen) = q at h
  generalize (if s.take 2 = [48, 120] ∨ s.take 2 = [48, 88] then 16 else if 1 < s.length ∧ s.head? = some 48 then 8 else 10) = bs at h
  by_cases c1 : p = [] ∨ ¬ p.all q = true
  · rw [if_pos c1] at h; cases h; exact .inl rfl
  · rw [if_neg c1] at h
    by_cases c2 : 18446744073709551616 ≤ valOf bs p
    · rw [if_pos c2] at h; cases h; exact .inr rfl
    · rw [if_neg c2] at h; cases h
set_option maxRecDepth 100000 in
set_option maxHeartbeats 8000000 in
theorem rtoken_num (s : ByteArray) (k : Nat) (c : UInt8) (w : World) (hs : s.size ≤ 1000000000) (hk : k < s.size) (hc : s[k] = c) (h1 : cls c = 2) (r : Except Nat (Nat × Bytes × Nat × Nat))
    (hr : r = match numOf ((s.data.toList.drop k).take (wordLen (s.data.toList.drop k))) with | .error e => .error e | .ok x => .ok (2, [], x, wordLen (s.data.toList.drop k))) :
    Calls Tryz.prog 24 #[.string s, .int .i64 k] w (RTokPost k r w) := by
  have hten : isTen s[k] = true := by rw [hc, ten_two, h1]; rfl
  have HN := Lib.hid (fun wx => rnumber_any s k wx (by omega) hk hten)
  have HR := Lib.hid hr
  have HC1 : Hid ((cls c == 1) = false) := Lib.hid (by rw [h1]; rfl)
  have HC2 : Hid ((cls c == 2) = true) := Lib.hid (by rw [h1]; rfl)
  clear hr h1 hten
  cases hN : numOf ((s.data.toList.drop k).take (wordLen (s.data.toList.drop k))) with
  | error cd =>
    have hcd : ((cd : Int) != 0) = true := by rcases numOf_err hN with h | h <;> (rw [h]; rfl)
    have HR2 : Hid (r = .error cd) := Lib.hid (by rw [HR.out, hN])
    have HN2 := Lib.hid (fun wx => (HN.out wx).mono (R' := fun e w' => wx = w' ∧ e = .returned (.tuple #[.int .u64 0, .int .i64 k, .int .i64 cd])) fun e w' h => (by unfold RNumPost at h; rw [hN] at h; exact h))
    clear hN
    go_enter Tryz.func24, Tryz.ntmps24
    go_wp2_with fail
    refine (rin_letters c _).mono ?_
    rintro e1 w1 ⟨rfl, rfl⟩
    rw [HC1.out]
    go_wp2_with fail
    refine (rin_two c _).mono ?_
    rintro e1 w1 ⟨rfl, rfl⟩
    rw [HC2.out]
    go_wp2_with fail
    refine (HN2.out _).mono ?_
    rintro e1 W ⟨hw, rfl⟩
    have hW : RS w 0 k ⟨#[]⟩ 0 W := by rw [← hw]; exact RS.start
    clear hw
    obtain ⟨⟨e0, e1, e2, e3⟩, q0, q1, q2, q3⟩ := hW.res
    have HW := Lib.hid hW
    clear hW
    go_wp2_with fail
    have hfin := HW.out.fin 0 0 ⟨#[]⟩ 0
    refine bodyPost_ret (v := .tuple #[.agg #[.int .i64 0, .int .i64 0, .string ⟨#[]⟩, .int .u64 0], .int .i64 k, .int .i64 cd]) (results_rtok _ _ w.heap.size _ _ _ rfl hfin.1 rfl rfl rfl) rfl ⟨hfin.2, ?_⟩
    rw [HR2.out]; rfl
  | ok x =>
    have HR2 : Hid (r = .ok (2, [], x, wordLen (s.data.toList.drop k))) := Lib.hid (by rw [HR.out, hN])
    obtain ⟨e, he⟩ : ∃ e, k + wordLen (s.data.toList.drop k) = e := ⟨_, rfl⟩
    have HN2 := Lib.hid (fun wx => (HN.out wx).mono (R' := fun e1 w' => wx = w' ∧ e1 = .returned (.tuple #[.int .u64 x, .int .i64 e, .int .i64 0])) fun e1 w' h => (by unfold RNumPost at h; rw [hN, he] at h; exact h))
    have HE := Lib.hid he
    clear hN he
    go_enter Tryz.func24, Tryz.ntmps24
    go_wp2_with fail
    refine (rin_letters c _).mono ?_
    rintro e1 w1 ⟨rfl, rfl⟩
    rw [HC1.out]
    go_wp2_with fail
    refine (rin_two c _).mono ?_
    rintro e1 w1 ⟨rfl, rfl⟩
    rw [HC2.out]
    go_wp2_with fail
    refine (HN2.out _).mono ?_
    rintro e1 W ⟨hw, rfl⟩
    have hW : RS w 0 k ⟨#[]⟩ 0 W := by rw [← hw]; exact RS.start
    clear hw
    obtain ⟨⟨d0, d1, d2, d3⟩, g0, g2, g3⟩ := hW.cells
    obtain ⟨⟨e0, e1, e2, e3⟩, q0, q1, q2, q3⟩ := hW.res
    have HW := Lib.hid hW
    clear hW
    go_wp2_with fail
    have hfin := ((HW.out.setK 2).setN x).fin 2 k ⟨#[]⟩ x
    refine bodyPost_ret (v := .tuple #[.agg #[.int .i64 2, .int .i64 k, .string ⟨#[]⟩, .int .u64 x], .int .i64 e, .int .i64 0]) (results_rtok _ _ w.heap.size _ _ _ rfl hfin.1 rfl rfl rfl) rfl ⟨hfin.2, ?_⟩
    rw [HR2.out]
    dsimp only
    rw [HE.out]; rfl
set_option maxRecDepth 100000 in
set_option maxHeartbeats 8000000 in
theorem rtoken_text (s : ByteArray) (k : Nat) (c : UInt8) (w : World) (hs : s.size ≤ 1000000000) (hk : k < s.size) (hc : s[k] = c) (h1 : cls c = 3) (r : Except Nat (Nat × Bytes × Nat × Nat))
    (hr : r = match textRun c (s.data.toList.drop (k + 1)) with | none => .error 240 | some (t, n) => .ok (3, t, 0, n + 1)) :
    Calls Tryz.prog 24 #[.string s, .int .i64 k] w (RTokPost k r w) := by
  have HX := Lib.hid (fun wx => (by have h := rtext_any s k wx hs hk; rw [hc] at h; exact h : Calls Tryz.prog 47 #[.string s, .int .i64 k] wx (RTextPost k (textRun c (s.data.toList.drop (k + 1))) wx)))
  have HR := Lib.hid hr
  have HC1 : Hid ((cls c == 1) = false) := Lib.hid (by rw [h1]; rfl)
  have HC2 : Hid ((cls c == 2) = false) := Lib.hid (by rw [h1]; rfl)
  have hq := quote_cls c
  have hb : ((c.toNat : Int) == 34) = true ∨ (((c.toNat : Int) == 34) = false ∧ ((c.toNat : Int) == 39) = true) := by
    rw [h1] at hq
    have hq2 : c = 34 ∨ c = 39 := by simpa using hq
    rcases hq2 with h | h
    · exact .inl (by rw [h]; rfl)
    · exact .inr ⟨by rw [h]; rfl, by rw [h]; rfl⟩
  clear hr h1 hq
  cases hT : textRun c (s.data.toList.drop (k + 1)) with
  | none =>
    have HR2 : Hid (r = .error 240) := Lib.hid (by rw [HR.out, hT])
    have HX2 := Lib.hid (fun wx => (HX.out wx).mono (R' := fun e w' => Fr No wx w' ∧ e = .returned (.tuple #[.string ⟨#[]⟩, .int .i64 0, .bool false])) fun e w' h => (by unfold RTextPost at h; rw [hT] at h; exact h))
    clear hT HX HR
    rcases hb with b1 | ⟨b1, b2⟩
    all_goals
      go_enter Tryz.func24, Tryz.ntmps24
      go_wp2_with fail
      refine (rin_letters c _).mono ?_
      rintro e1 w1 ⟨rfl, rfl⟩
      rw [HC1.out]
      go_wp2_with fail
      refine (rin_two c _).mono ?_
      rintro e1 w1 ⟨rfl, rfl⟩
      rw [HC2.out]
      go_wp2_with fail
      refine (HX2.out _).mono ?_
      rintro e1 W ⟨hw, rfl⟩
      have hW : RS w 0 k ⟨#[]⟩ 0 W := RS.start.call hw
      clear hw
      obtain ⟨⟨e0, e1, e2, e3⟩, q0, q1, q2, q3⟩ := hW.res
      have HW := Lib.hid hW
      clear hW
      go_wp2_with fail
      have hfin := HW.out.fin 0 0 ⟨#[]⟩ 0
      refine bodyPost_ret (v := .tuple #[.agg #[.int .i64 0, .int .i64 0, .string ⟨#[]⟩, .int .u64 0], .int .i64 k, .int .i64 240]) (results_rtok _ _ w.heap.size _ _ _ rfl hfin.1 rfl rfl rfl) rfl ⟨hfin.2, ?_⟩
      rw [HR2.out]; rfl
  | some tn =>
    obtain ⟨t, n⟩ := tn
    have HR2 : Hid (r = .ok (3, t, 0, n + 1)) := Lib.hid (by rw [HR.out, hT])
    obtain ⟨e, he⟩ : ∃ e, k + 1 + n = e := ⟨_, rfl⟩
    obtain ⟨u, hu⟩ : ∃ u : ByteArray, u = ⟨t.toArray⟩ := ⟨_, rfl⟩
    have HX2 := Lib.hid (fun wx => (HX.out wx).mono (R' := fun e1 w' => Fr No wx w' ∧ e1 = .returned (.tuple #[.string u, .int .i64 e, .bool true])) fun e1 w' h => (by unfold RTextPost at h; rw [hT] at h; rw [hu, ← he]; exact h))
    have HE := Lib.hid (And.intro (show k + (n + 1) = e by omega) hu)
    clear hT HX HR he hu
    rcases hb with b1 | ⟨b1, b2⟩
    all_goals
      go_enter Tryz.func24, Tryz.ntmps24
      go_wp2_with fail
      refine (rin_letters c _).mono ?_
      rintro e1 w1 ⟨rfl, rfl⟩
      rw [HC1.out]
      go_wp2_with fail
      refine (rin_two c _).mono ?_
      rintro e1 w1 ⟨rfl, rfl⟩
      rw [HC2.out]
      go_wp2_with fail
      refine (HX2.out _).mono ?_
      rintro e1 W ⟨hw, rfl⟩
      have hW : RS w 0 k ⟨#[]⟩ 0 W := RS.start.call hw
      clear hw
      obtain ⟨⟨d0, d1, d2, d3⟩, g0, g2, g3⟩ := hW.cells
      obtain ⟨⟨e0, e1, e2, e3⟩, q0, q1, q2, q3⟩ := hW.res
      have HW := Lib.hid hW
      clear hW
      go_wp2_with fail
      have hfin := ((HW.out.setK 3).setT u).fin 3 k u 0
      refine bodyPost_ret (v := .tuple #[.agg #[.int .i64 3, .int .i64 k, .string u, .int .u64 0], .int .i64 e, .int .i64 0]) (results_rtok _ _ w.heap.size _ _ _ rfl hfin.1 rfl rfl rfl) rfl ⟨hfin.2, ?_⟩
      rw [HR2.out]
      dsimp only
      rw [HE.out.1, HE.out.2]; rfl
set_option maxRecDepth 100000 in
set_option maxHeartbeats 8000000 in
theorem rtoken_sign (s : ByteArray) (k : Nat) (c : UInt8) (w : World) (hs : s.size ≤ 1000000000) (hk : k < s.size) (hc : s[k] = c) (h1 : cls c = 4) :
    Calls Tryz.prog 24 #[.string s, .int .i64 k] w (RTokPost k (.ok (4, [c], 0, 1)) w) := by
  have HC1 : Hid ((cls c == 1) = false) := Lib.hid (by rw [h1]; rfl)
  have HC2 : Hid ((cls c == 2) = false) := Lib.hid (by rw [h1]; rfl)
  have HC4 : Hid ((cls c == 4) = true) := Lib.hid (by rw [h1]; rfl)
  have hq := quote_cls c
  rw [h1] at hq
  have hq2 : ¬ (c = 34 ∨ c = 39) := by
    intro h
    rcases h with h | h <;> (rw [h] at hq; cases hq)
  have b1 : ((c.toNat : Int) == 34) = false := ne_byte (d := 34) (fun h => hq2 (.inl h))
  have b2 : ((c.toNat : Int) == 39) = false := ne_byte (d := 39) (fun h => hq2 (.inr h))
  obtain ⟨e, he⟩ : ∃ e, e = k + 1 := ⟨_, rfl⟩
  have hke : k ≤ e := by omega
  have hes : e ≤ s.size := by omega
  have hei : (k : Int) + 1 = (e : Int) := by omega
  obtain ⟨t, ht⟩ : ∃ t, s.extract k e = t := ⟨_, rfl⟩
  have htl : t = ⟨[c].toArray⟩ := by
    refine bytes_eq ?_
    rw [← ht, extract_list, he, Nat.add_sub_cancel_left, drop_byte s k hk, hc]; rfl
  have HE := Lib.hid (And.intro he htl)
  clear h1 hq hq2 he htl
  go_enter Tryz.func24, Tryz.ntmps24
  go_wp2_with fail
  refine (rin_letters c _).mono ?_
  rintro e1 w1 ⟨rfl, rfl⟩
  rw [HC1.out]
  go_wp2_with fail
  refine (rin_two c _).mono ?_
  rintro e1 w1 ⟨rfl, rfl⟩
  rw [HC2.out]
  go_wp2_with fail
  refine (rin_signs c _).mono ?_
  rintro e1 W ⟨rfl, hw⟩
  rw [HC4.out]
  have hW : RS w 0 k ⟨#[]⟩ 0 W := by rw [hw]; exact RS.start
  clear hw
  obtain ⟨⟨d0, d1, d2, d3⟩, g0, g2, g3⟩ := hW.cells
  obtain ⟨⟨e0, e1, e2, e3⟩, q0, q1, q2, q3⟩ := hW.res
  have HW := Lib.hid hW
  clear hW
  go_wp2_with fail
  go_region
  go_wp2_with fail
  have hfin := ((HW.out.setK 4).setT t).fin 4 k t 0
  refine bodyPost_ret (v := .tuple #[.agg #[.int .i64 4, .int .i64 k, .string t, .int .u64 0], .int .i64 e, .int .i64 0]) (results_rtok _ _ w.heap.size _ _ _ rfl (by rw [heap_drew]; exact hfin.1) rfl rfl rfl) rfl ⟨hfin.2.drew, ?_⟩
  rw [HE.out.2]
  dsimp only
  rw [← HE.out.1]; rfl
set_option maxRecDepth 100000 in
set_option maxHeartbeats 8000000 in
theorem rtoken_none (s : ByteArray) (k : Nat) (c : UInt8) (w : World) (hk : k < s.size) (hc : s[k] = c) (h1 : ¬ cls c = 1) (h2 : ¬ cls c = 2) (h3 : ¬ cls c = 3) (h4 : ¬ cls c = 4) :
    Calls Tryz.prog 24 #[.string s, .int .i64 k] w (RTokPost k (.error 240) w) := by
  have HC1 : Hid ((cls c == 1) = false) := Lib.hid (by simpa using h1)
  have HC2 : Hid ((cls c == 2) = false) := Lib.hid (by simpa using h2)
  have HC4 : Hid ((cls c == 4) = false) := Lib.hid (by simpa using h4)
  have hq := quote_cls c
  have h33 : (cls c == 3) = false := by simpa using h3
  rw [h33] at hq
  have hq2 : ¬ (c = 34 ∨ c = 39) := by
    intro h
    rcases h with h | h <;> (rw [h] at hq; cases hq)
  have b1 : ((c.toNat : Int) == 34) = false := ne_byte (d := 34) (fun h => hq2 (.inl h))
  have b2 : ((c.toNat : Int) == 39) = false := ne_byte (d := 39) (fun h => hq2 (.inr h))
  clear h1 h2 h3 h4 hq hq2 h33
  go_enter Tryz.func24, Tryz.ntmps24
  go_wp2_with fail
  refine (rin_letters c _).mono ?_
  rintro e1 w1 ⟨rfl, rfl⟩
  rw [HC1.out]
  go_wp2_with fail
  refine (rin_two c _).mono ?_
  rintro e1 w1 ⟨rfl, rfl⟩
  rw [HC2.out]
  go_wp2_with fail
  refine (rin_signs c _).mono ?_
  rintro e1 W ⟨rfl, hw⟩
  rw [HC4.out]
  have hW : RS w 0 k ⟨#[]⟩ 0 W := by rw [hw]; exact RS.start
  clear hw
  obtain ⟨⟨e0, e1, e2, e3⟩, q0, q1, q2, q3⟩ := hW.res
  have HW := Lib.hid hW
  clear hW
  go_wp2_with fail
  have hfin := HW.out.fin 0 0 ⟨#[]⟩ 0
  exact bodyPost_ret (v := .tuple #[.agg #[.int .i64 0, .int .i64 0, .string ⟨#[]⟩, .int .u64 0], .int .i64 k, .int .i64 240]) (results_rtok _ _ w.heap.size _ _ _ rfl hfin.1 rfl rfl rfl) rfl ⟨hfin.2, rfl⟩
theorem rtoken_any (s : ByteArray) (k : Nat) (w : World) (hs : s.size ≤ 1000000000) (hk : k < s.size) :
    Calls Tryz.prog 24 #[.string s, .int .i64 k] w (RTokPost k (tokAt (s.data.toList.drop k)) w) := by
  have hd := drop_byte s k hk
  obtain ⟨c, hc⟩ : ∃ c, s[k] = c := ⟨_, rfl⟩
  rw [hc] at hd
  by_cases h1 : cls c = 1
  · have e : tokAt (s.data.toList.drop k) = .ok (1, (s.data.toList.drop k).take (wordLen (s.data.toList.drop k)), 0, wordLen (s.data.toList.drop k)) := by
      rw [hd, tokAt]; simp only [if_pos h1]
    rw [e]; exact rtoken_name s k c w hs hk hc h1
  · by_cases h2 : cls c = 2
    · refine rtoken_num s k c w hs hk hc h2 _ ?_
      rw [hd, tokAt]; simp only [if_neg h1, if_pos h2]
      generalize numOf _ = r
      cases r <;> rfl
    · by_cases h3 : cls c = 3
      · refine rtoken_text s k c w hs hk hc h3 _ ?_
        rw [hd, tokAt]; simp only [if_neg h1, if_neg h2, if_pos h3]
        generalize textRun _ _ = r
        cases r <;> rfl
      · by_cases h4 : cls c = 4
        · have e : tokAt (s.data.toList.drop k) = .ok (4, [c], 0, 1) := by
            rw [hd, tokAt]; simp only [if_neg h1, if_neg h2, if_neg h3, if_pos h4]
          rw [e]; exact rtoken_sign s k c w hs hk hc h4
        · have e : tokAt (s.data.toList.drop k) = .error 240 := by
            rw [hd, tokAt]; simp only [if_neg h1, if_neg h2, if_neg h3, if_neg h4]
          rw [e]; exact rtoken_none s k c w hk hc h1 h2 h3 h4
end Go.Proofs.YtbdheihjnkfpiaaGreatDoor
