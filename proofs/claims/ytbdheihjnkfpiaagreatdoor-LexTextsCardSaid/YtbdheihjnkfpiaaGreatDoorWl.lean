/-
  The lexer's tokens walked: the next one, or what can't be read.
-/
import Derived.Test.YtbdheihjnkfpiaaGreatDoorWj
import Derived.Test.YtbdheihjnkfpiaaGreatDoorWk
import Derived.StillTailTactics
namespace Go.Proofs.YtbdheihjnkfpiaaGreatDoor
open Go Go.RowKit
theorem Fr.setNew {X : Nat → Prop} {a b : World} (h : Fr X a b) (p : Addr) (u : Value) (hp : a.heap.size ≤ p.block) : Fr X a (b.setCell p u) := h.setCell p u (fun h' => by omega)
/-- A token as the program hands it on: kind, place, text, number. -/
def tokV (t : Tok) : Value := .agg #[.int .i64 t.kind, .int .i64 t.place, .string ⟨t.text.toArray⟩, .int .u64 t.num]
/-- token: the next one, or what can't be read. -/
def TokPost (b : Nat) (s : ByteArray) (k : Nat) (r : Except Nat (Nat × Bytes × Nat × Nat)) (w : World) (e : Ending) (w' : World) : Prop :=
  Fr (One b) w w' ∧
  match r with
  | .ok (kd, t, x, n) => e = .returned (tokV ⟨kd, k, t, x⟩) ∧ w'.heap[b]? = some (.cells #[.string s, .int .i64 ((k + n : Nat))] 78 (0, 0))
  | .error c => e = .panicked (refusedAt k c)
theorem tokSize : (Tryz.prog.info? 33).map (·.size) = some 4 := by kernel_rfl
theorem abs_world {P : Program} {c : Code} {Q : Exit → Act → World → Prop} {a : Act} {w : World} (F : World → Prop) (hF : F w) (h : ∀ W, F W → c.wp P Q a W) : c.wp P Q a w := h w hF

/-- Where token stands: the reader's place, what the token's variable holds, its result's variable, and that nothing else of old has turned. -/
structure TS (b : Nat) (s : ByteArray) (w : World) (j : Nat) (kd at_ : Int) (txt : ByteArray) (num : Int) (W : World) : Prop where
  rd : W.heap[b]? = some (.cells #[.string s, .int .i64 j] 78 (0, 0))
  tk : W.heap[w.heap.size + 1]? = some (.cells #[.int .i64 kd, .int .i64 at_, .string txt, .int .u64 num] 33 (0, 0))
  rs : W.heap[w.heap.size]? = some (.cells #[.int .i64 0, .int .i64 0, .string ⟨#[]⟩, .int .u64 0] 33 (0, 0))
  fr : Fr (One b) w W
  lt : b < w.heap.size
theorem TS.start {b : Nat} {s : ByteArray} {w : World} {j : Nat} {at_ : Int} (hb : w.heap[b]? = some (.cells #[.string s, .int .i64 j] 78 (0, 0))) :
    TS b s w j 0 at_ ⟨#[]⟩ 0 ((w.alloc (.cells #[.int .i64 0, .int .i64 0, .string ⟨#[]⟩, .int .u64 0] 33)).alloc (.cells #[.int .i64 0, .int .i64 at_, .string ⟨#[]⟩, .int .u64 0] 33)) :=
  ⟨at_alloc (at_alloc hb _) _, heap_alloc2_new w _ _, heap_alloc2_old w _ _, ((Fr.refl _ _).alloc _).alloc _, lt_of_block hb⟩
theorem TS.drewN {b : Nat} {s : ByteArray} {w : World} {j : Nat} {kd at_ : Int} {txt : ByteArray} {num : Int} {W : World} (h : TS b s w j kd at_ txt num W) (n : Nat) : TS b s w j kd at_ txt num (W.drewN n) :=
  ⟨h.rd, h.tk, h.rs, h.fr.drewN n, h.lt⟩
theorem TS.drew {b : Nat} {s : ByteArray} {w : World} {j : Nat} {kd at_ : Int} {txt : ByteArray} {num : Int} {W : World} (h : TS b s w j kd at_ txt num W) : TS b s w j kd at_ txt num W.drew :=
  ⟨h.rd, h.tk, h.rs, h.fr.drew, h.lt⟩
theorem TS.cells {b : Nat} {s : ByteArray} {w : World} {j : Nat} {kd at_ : Int} {txt : ByteArray} {num : Int} {W : World} (h : TS b s w j kd at_ txt num W) :
    W.cell? ⟨w.heap.size + 1, 0, none⟩ = some (.int .i64 kd) ∧ W.cell? ⟨w.heap.size + 1, 1, none⟩ = some (.int .i64 at_) ∧ W.cell? ⟨w.heap.size + 1, 2, none⟩ = some (.string txt) ∧ W.cell? ⟨w.heap.size + 1, 3, none⟩ = some (.int .u64 num) :=
  ⟨by simp [World.cell?, h.tk], by simp [World.cell?, h.tk], by simp [World.cell?, h.tk], by simp [World.cell?, h.tk]⟩
theorem TS.free {b : Nat} {s : ByteArray} {w : World} {j : Nat} {kd at_ : Int} {txt : ByteArray} {num : Int} {W : World} (h : TS b s w j kd at_ txt num W) :
    W.frozen? ⟨w.heap.size + 1, 0, none⟩ = false ∧ W.frozen? ⟨w.heap.size + 1, 2, none⟩ = false ∧ W.frozen? ⟨w.heap.size + 1, 3, none⟩ = false :=
  ⟨by simp [World.frozen?, h.tk], by simp [World.frozen?, h.tk], by simp [World.frozen?, h.tk]⟩
theorem TS.res {b : Nat} {s : ByteArray} {w : World} {j : Nat} {kd at_ : Int} {txt : ByteArray} {num : Int} {W : World} (h : TS b s w j kd at_ txt num W) :
    (W.cell? ⟨w.heap.size, 0, none⟩ = some (.int .i64 0) ∧ W.cell? ⟨w.heap.size, 1, none⟩ = some (.int .i64 0) ∧ W.cell? ⟨w.heap.size, 2, none⟩ = some (.string ⟨#[]⟩) ∧ W.cell? ⟨w.heap.size, 3, none⟩ = some (.int .u64 0)) ∧
    (W.frozen? ⟨w.heap.size, 0, none⟩ = false ∧ W.frozen? ⟨w.heap.size, 1, none⟩ = false ∧ W.frozen? ⟨w.heap.size, 2, none⟩ = false ∧ W.frozen? ⟨w.heap.size, 3, none⟩ = false) :=
  ⟨⟨by simp [World.cell?, h.rs], by simp [World.cell?, h.rs], by simp [World.cell?, h.rs], by simp [World.cell?, h.rs]⟩, by simp [World.frozen?, h.rs], by simp [World.frozen?, h.rs], by simp [World.frozen?, h.rs], by simp [World.frozen?, h.rs]⟩
theorem TS.setK {b : Nat} {s : ByteArray} {w : World} {j : Nat} {kd at_ : Int} {txt : ByteArray} {num : Int} {W : World} (h : TS b s w j kd at_ txt num W) (x : Int) : TS b s w j x at_ txt num (W.setCell ⟨w.heap.size + 1, 0, none⟩ (.int .i64 x)) :=
  ⟨(heap_setCell_other _ _ _ _ (by have := h.lt; show b ≠ w.heap.size + 1; omega)).trans h.rd, (heap_setCell_same _ _ _ _ _ _ h.tk).trans rfl, (heap_setCell_other _ _ _ _ (by show w.heap.size ≠ w.heap.size + 1; omega)).trans h.rs, h.fr.setNew _ _ (by simp), h.lt⟩
theorem TS.setT {b : Nat} {s : ByteArray} {w : World} {j : Nat} {kd at_ : Int} {txt : ByteArray} {num : Int} {W : World} (h : TS b s w j kd at_ txt num W) (x : ByteArray) : TS b s w j kd at_ x num (W.setCell ⟨w.heap.size + 1, 2, none⟩ (.string x)) :=
  ⟨(heap_setCell_other _ _ _ _ (by have := h.lt; show b ≠ w.heap.size + 1; omega)).trans h.rd, (heap_setCell_same _ _ _ _ _ _ h.tk).trans rfl, (heap_setCell_other _ _ _ _ (by show w.heap.size ≠ w.heap.size + 1; omega)).trans h.rs, h.fr.setNew _ _ (by simp), h.lt⟩
theorem TS.setN {b : Nat} {s : ByteArray} {w : World} {j : Nat} {kd at_ : Int} {txt : ByteArray} {num : Int} {W : World} (h : TS b s w j kd at_ txt num W) (x : Int) : TS b s w j kd at_ txt x (W.setCell ⟨w.heap.size + 1, 3, none⟩ (.int .u64 x)) :=
  ⟨(heap_setCell_other _ _ _ _ (by have := h.lt; show b ≠ w.heap.size + 1; omega)).trans h.rd, (heap_setCell_same _ _ _ _ _ _ h.tk).trans rfl, (heap_setCell_other _ _ _ _ (by show w.heap.size ≠ w.heap.size + 1; omega)).trans h.rs, h.fr.setNew _ _ (by simp), h.lt⟩
theorem TS.setR {b : Nat} {s : ByteArray} {w : World} {j : Nat} {kd at_ : Int} {txt : ByteArray} {num : Int} {W : World} (h : TS b s w j kd at_ txt num W) (i : Nat) (x : Int) (hx : x = i) : TS b s w i kd at_ txt num (W.setCell ⟨b, 1, none⟩ (.int .i64 x)) :=
  ⟨hx ▸ set_second h.rd _, (heap_setCell_other _ _ _ _ (by have := h.lt; show w.heap.size + 1 ≠ b; omega)).trans h.tk, (heap_setCell_other _ _ _ _ (by have := h.lt; show w.heap.size ≠ b; omega)).trans h.rs, h.fr.setCell _ _ (fun _ => rfl), h.lt⟩
theorem TS.call {b : Nat} {s : ByteArray} {w : World} {j i : Nat} {kd at_ : Int} {txt : ByteArray} {num : Int} {W W' : World} (h : TS b s w j kd at_ txt num W) (hf : Fr (One b) W W') (hr : W'.heap[b]? = some (.cells #[.string s, .int .i64 i] 78 (0, 0))) : TS b s w i kd at_ txt num W' :=
  ⟨hr, hf.at h.tk (by intro e; have e' : w.heap.size + 1 = b := e; have := h.lt; omega), hf.at h.rs (by intro e; have e' : w.heap.size = b := e; have := h.lt; omega), h.fr.trans_same hf, h.lt⟩

theorem set_cell {w : World} {g : Nat} {cs : Array Value} {t : TypeId} (h : w.heap[g]? = some (.cells cs t (0, 0))) (i : Nat) (v : Value) : (w.setCell ⟨g, i, none⟩ v).heap[g]? = some (.cells (cs.setIfInBounds i v) t (0, 0)) := heap_setCell_same w g i cs t v h
theorem TS.fin {b : Nat} {s : ByteArray} {w : World} {j : Nat} {kd at_ : Int} {txt : ByteArray} {num : Int} {W : World} (h : TS b s w j kd at_ txt num W) :
    ((((W.setCell ⟨w.heap.size, 0, none⟩ (.int .i64 kd)).setCell ⟨w.heap.size, 1, none⟩ (.int .i64 at_)).setCell ⟨w.heap.size, 2, none⟩ (.string txt)).setCell ⟨w.heap.size, 3, none⟩ (.int .u64 num)).heap[w.heap.size]? = some (.cells #[.int .i64 kd, .int .i64 at_, .string txt, .int .u64 num] 33 (0, 0)) ∧
    ((((W.setCell ⟨w.heap.size, 0, none⟩ (.int .i64 kd)).setCell ⟨w.heap.size, 1, none⟩ (.int .i64 at_)).setCell ⟨w.heap.size, 2, none⟩ (.string txt)).setCell ⟨w.heap.size, 3, none⟩ (.int .u64 num)).heap[b]? = some (.cells #[.string s, .int .i64 j] 78 (0, 0)) ∧
    Fr (One b) w ((((W.setCell ⟨w.heap.size, 0, none⟩ (.int .i64 kd)).setCell ⟨w.heap.size, 1, none⟩ (.int .i64 at_)).setCell ⟨w.heap.size, 2, none⟩ (.string txt)).setCell ⟨w.heap.size, 3, none⟩ (.int .u64 num)) := by
  have hne : b ≠ w.heap.size := by have := h.lt; omega
  refine ⟨set_cell (set_cell (set_cell (set_cell h.rs 0 _) 1 _) 2 _) 3 _, ?_, (((h.fr.setNew _ _ (by simp)).setNew _ _ (by simp)).setNew _ _ (by simp)).setNew _ _ (by simp)⟩
  rw [heap_setCell_other _ _ _ _ (by exact hne), heap_setCell_other _ _ _ _ (by exact hne), heap_setCell_other _ _ _ _ (by exact hne), heap_setCell_other _ _ _ _ (by exact hne)]
  exact h.rd
set_option maxRecDepth 100000 in
set_option maxHeartbeats 4000000 in
theorem token_name (b : Nat) (s : ByteArray) (k : Nat) (c : UInt8) (w : World) (hb : w.heap[b]? = some (.cells #[.string s, .int .i64 k] 78 (0, 0))) (hs : s.size ≤ 2147483640) (hk : k < s.size) (hc : s[k] = c) (h1 : cls c = 1) :
    Calls Tryz.prog 60 #[.pointer (some ⟨b, 0, none⟩)] w (TokPost b s k (.ok (1, (s.data.toList.drop k).take (wordLen (s.data.toList.drop k)), 0, wordLen (s.data.toList.drop k))) w) := by
  obtain ⟨c0, c1, f0, f1, hlt0⟩ := two_cells hb
  have hlt' : (k : Int) < (s.size : Int) := by omega
  obtain ⟨n, hn⟩ : ∃ n, n = wordLen (s.data.toList.drop k) := ⟨_, rfl⟩
  have hnl : k + n ≤ s.size := by
    have := (List.takeWhile_prefix isWord (l := s.data.toList.drop k)).length_le
    have e : n = _ := hn
    unfold wordLen at e
    rw [← e] at this
    simp only [List.length_drop, Array.length_toList] at this
    have hsz : s.data.size = s.size := rfl
    omega
  rw [← hn]
  have HB := Lib.hid hb
  have HN := Lib.hid hn
  have HC := Lib.hid h1
  clear hb hn h1
  go_enter Tryz.func60, Tryz.ntmps60
  go_wp2_with (first | go_quiet ((go_at_call 52; refine Calls.quiet_of_same ((classOf_byte c _).mono fun _ _ h => ⟨by rw [h.1, HC.out], h.2.symm⟩))) | (go_at_call 73; go_must (refine (run_any b s _ k _ (by exact (((((Fr.refl No w).alloc _).alloc _).drewN _).setNew ⟨w.heap.size + 1, 0, none⟩ _ (by simp)).at HB.out id) (by unfold maxLen; omega) (by omega)).mono ?_); rintro e w' ⟨rfl, m, rfl⟩; rw [← HN.out]))
  refine abs_world (TS b s w (k + n) 1 k ⟨#[]⟩ 0) ((((((TS.start HB.out).drewN _).setK 1).drewN _).setR (k + n) _ (by omega))) ?_
  intro W hW
  clear c0 c1 f0 f1 hlt0
  obtain ⟨c0, c1, f0, f1, hlt0⟩ := two_cells hW.rd
  obtain ⟨d0, d1, d2, d3⟩ := hW.cells
  obtain ⟨g0, g2, g3⟩ := hW.free
  obtain ⟨⟨e0, e1, e2, e3⟩, q0, q1, q2, q3⟩ := hW.res
  have HW := Lib.hid hW
  clear hW
  go_region
  go_wp2_with fail
  have htx : s.extract k (k + n) = ⟨((s.data.toList.drop k).take n).toArray⟩ := by
    have := extract_list s k (k + n)
    rw [Nat.add_sub_cancel_left] at this
    exact bytes_eq this
  have hfin := ((HW.out.setT (s.extract k (k + n)))).fin
  refine bodyPost_ret (v := .agg #[.int .i64 1, .int .i64 k, .string (s.extract k (k + n)), .int .u64 0]) (results_cell_row rfl _ _ w.heap.size 33 _ (0, 0) _ rfl hfin.1 Tryz.underlying33 rfl tokSize) rfl ⟨hfin.2.2.drew, ?_, hfin.2.1⟩
  rw [htx]; rfl
set_option maxRecDepth 100000 in
set_option maxHeartbeats 4000000 in
theorem token_num (b : Nat) (s : ByteArray) (k : Nat) (c : UInt8) (w : World) (hb : w.heap[b]? = some (.cells #[.string s, .int .i64 k] 78 (0, 0))) (hb16 : 8 ≤ b) (hV : Vars w) (hs : s.size ≤ 2147483640) (hk : k < s.size) (hc : s[k] = c) (h1 : cls c = 2) (r : Except Nat (Nat × Bytes × Nat × Nat))
    (hr : r = match numOf ((s.data.toList.drop k).take (wordLen (s.data.toList.drop k))) with | .error e => .error e | .ok x => .ok (2, [], x, wordLen (s.data.toList.drop k))) :
    Calls Tryz.prog 60 #[.pointer (some ⟨b, 0, none⟩)] w (TokPost b s k r w) := by
  obtain ⟨c0, c1, f0, f1, hlt0⟩ := two_cells hb
  have hlt' : (k : Int) < (s.size : Int) := by omega
  obtain ⟨n, hn⟩ : ∃ n, n = wordLen (s.data.toList.drop k) := ⟨_, rfl⟩
  have hn0 : 0 < n := by rw [hn, drop_byte s k hk]; exact wordLen_pos (.inr (by rw [hc]; exact h1))
  have hnl : k + n ≤ s.size := by
    have := (List.takeWhile_prefix isWord (l := s.data.toList.drop k)).length_le
    have e : n = _ := hn
    unfold wordLen at e
    rw [← e] at this
    simp only [List.length_drop, Array.length_toList] at this
    have hsz : s.data.size = s.size := rfl
    omega
  rw [← hn] at hr
  obtain ⟨e, he⟩ : ∃ e, e = k + n := ⟨_, rfl⟩
  have hke : k ≤ e := by omega
  have hes : e ≤ s.size := by omega
  obtain ⟨t, ht⟩ : ∃ t, s.extract k e = t := ⟨_, rfl⟩
  have htl : t.data.toList = (s.data.toList.drop k).take n := by
    rw [← ht, extract_list, he, Nat.add_sub_cancel_left]
  rw [← htl] at hr
  have htn : t.data.toList ≠ [] := by
    rw [htl]; intro e
    have := congrArg List.length e
    simp at this
    omega
  have hts : t.size ≤ 2147483640 := by rw [← ht]; simp; omega
  have HB := Lib.hid hb
  have HN := Lib.hid hn
  have HC := Lib.hid h1
  have HR := Lib.hid hr
  have HV := Lib.hid hV
  have HT := Lib.hid (And.intro hts htn)
  have HE := Lib.hid he
  clear hb hn h1 hr hV htl hts htn he
  go_enter Tryz.func60, Tryz.ntmps60
  go_wp2_with (first | go_quiet ((go_at_call 52; refine Calls.quiet_of_same ((classOf_byte c _).mono fun _ _ h => ⟨by rw [h.1, HC.out], h.2.symm⟩))) | (go_at_call 73; go_must (refine (run_any b s _ k _ (by exact (((((Fr.refl No w).alloc _).alloc _).drewN _).setNew ⟨w.heap.size + 1, 0, none⟩ _ (by simp)).at HB.out id) (by unfold maxLen; omega) (by omega)).mono ?_); rintro e w' ⟨rfl, m, rfl⟩; rw [← HN.out]))
  refine abs_world (TS b s w e 2 k ⟨#[]⟩ 0) ((((((TS.start HB.out).drewN _).setK 2).drewN _).setR e _ (by rw [HE.out]; omega))) ?_
  intro W hW
  clear c0 c1 f0 f1 hlt0
  obtain ⟨c0, c1, f0, f1, hlt0⟩ := two_cells hW.rd
  obtain ⟨d0, d1, d2, d3⟩ := hW.cells
  obtain ⟨g0, g2, g3⟩ := hW.free
  have hVW := HV.out.kept hW.fr (fun i hi e => by have e2 : i = b := e; omega)
  have HW := Lib.hid hW
  have HVW := Lib.hid hVW
  clear hW hVW
  cases hN : numOf t.data.toList with
  | error cd =>
    have HC2 := Lib.hid (fun (wx : World) hv => (number_any b t k wx HT.out.1 hv HT.out.2).mono fun e w' h => (by unfold NumPost at h; rw [hN] at h; exact h : Fr No wx w' ∧ e = .panicked (refusedAt k cd)))
    have HR2 := Lib.hid (HR.out.trans (by rw [hN]))
    clear hN
    have HFin : Hid (∀ w2, Fr No W.drew w2 → TokPost b s k r w (.panicked (refusedAt k cd)) w2) := fun w2 hf => by rw [HR2.out]; exact ⟨HW.out.fr.drew.trans_no hf, rfl⟩
    go_still_tail 14, (by kernel_rfl)
    change wpList _ _ _ _ _ W.drew
    go_wp2_with (go_at_call 74; refine (HC2.out _ ?_).mono ?_; exact HVW.out; rintro e2 w' ⟨hf2, rfl⟩)
    exact ⟨rfl, HFin.out _ hf2⟩
  | ok x =>
    have HC2 := Lib.hid (fun (wx : World) hv => (number_any b t k wx HT.out.1 hv HT.out.2).mono fun e w' h => (by unfold NumPost at h; rw [hN] at h; exact h : Fr No wx w' ∧ e = .returned (.int .u64 x)))
    have HR2 := Lib.hid (HR.out.trans (by rw [hN]))
    clear hN
    go_still_tail 14, (by kernel_rfl)
    change wpList _ _ _ _ _ W.drew
    go_wp2_with fail
    refine (HC2.out _ ?_).mono ?_
    · exact HVW.out
    rintro e2 w2 ⟨hf2, rfl⟩
    have hW2 : TS b s w e 2 k ⟨#[]⟩ 0 w2 := HW.out.drew.call (hf2.mono fun _ _ h => h.elim) (hf2.at HW.out.rd id)
    clear c0 c1 f0 f1 hlt0 d0 d1 d2 d3 g0 g2 g3
    obtain ⟨d0, d1, d2, d3⟩ := hW2.cells
    obtain ⟨g0, g2, g3⟩ := hW2.free
    obtain ⟨⟨e0, e1, e2, e3⟩, q0, q1, q2, q3⟩ := hW2.res
    have HW2 := Lib.hid hW2
    clear hW2
    go_wp2_with fail
    have hfin := ((HW2.out.setN x)).fin
    refine bodyPost_ret (v := .agg #[.int .i64 2, .int .i64 k, .string ⟨#[]⟩, .int .u64 x]) (results_cell_row rfl _ _ w.heap.size 33 _ (0, 0) _ rfl hfin.1 Tryz.underlying33 rfl tokSize) rfl ?_
    rw [HR2.out]
    exact ⟨hfin.2.2, rfl, by rw [← HE.out]; exact hfin.2.1⟩
set_option maxRecDepth 100000 in
set_option maxHeartbeats 4000000 in
theorem token_text (b : Nat) (s : ByteArray) (k : Nat) (c : UInt8) (w : World) (hb : w.heap[b]? = some (.cells #[.string s, .int .i64 k] 78 (0, 0))) (hb16 : 8 ≤ b) (hV : Vars w) (hs : s.size ≤ 2147483640) (hk : k < s.size) (hc : s[k] = c) (h1 : cls c = 3) (r : Except Nat (Nat × Bytes × Nat × Nat))
    (hr : r = match textRun c (s.data.toList.drop (k + 1)) with | none => .error 240 | some (t, n) => .ok (3, t, 0, n + 1)) :
    Calls Tryz.prog 60 #[.pointer (some ⟨b, 0, none⟩)] w (TokPost b s k r w) := by
  obtain ⟨c0, c1, f0, f1, hlt0⟩ := two_cells hb
  have hlt' : (k : Int) < (s.size : Int) := by omega
  have HB := Lib.hid hb
  have HC := Lib.hid h1
  have HR := Lib.hid hr
  have HV := Lib.hid hV
  have HX := Lib.hid (fun wx hbx hVx => by have h := text_any b s k wx hbx hb16 hVx hs hk; rw [hc] at h; exact h)
  clear hb h1 hr hV
  go_enter Tryz.func60, Tryz.ntmps60
  go_wp2_with (first | go_quiet ((go_at_call 52; refine Calls.quiet_of_same ((classOf_byte c _).mono fun _ _ h => ⟨by rw [h.1, HC.out], h.2.symm⟩))))
  have hW0 := fun q => (((TS.start (at_ := k) HB.out).drewN q).setK 3)
  cases hT : textRun c (s.data.toList.drop (k + 1)) with
  | none =>
    have HR2 := Lib.hid (HR.out.trans (by rw [hT]))
    refine (HX.out _ (by exact (hW0 _).rd) (by exact HV.out.kept (hW0 _).fr (fun i hi e => by have e2 : i = b := e; omega))).mono ?_
    intro e2 w2 h2
    unfold TextPost at h2
    rw [hT] at h2
    obtain ⟨hf2, rfl⟩ := h2
    have HF := Lib.hid (show TokPost b s k r w (.panicked (refusedAt k 240)) w2 by rw [HR2.out]; exact ⟨(hW0 _).fr.trans_same hf2, rfl⟩)
    clear hf2 hW0
    exact ⟨rfl, HF.out⟩
  | some tn =>
    obtain ⟨t, n⟩ := tn
    have HR2 := Lib.hid (HR.out.trans (by rw [hT]))
    refine (HX.out _ (by exact (hW0 _).rd) (by exact HV.out.kept (hW0 _).fr (fun i hi e => by have e2 : i = b := e; omega))).mono ?_
    intro e2 w2 h2
    unfold TextPost at h2
    rw [hT] at h2
    obtain ⟨hf2, rfl, hb2⟩ := h2
    have hW2 : TS b s w (k + 1 + n) 3 k ⟨#[]⟩ 0 w2 := (hW0 _).call hf2 hb2
    clear c0 c1 f0 f1 hlt0 hf2 hb2 hW0
    obtain ⟨d0, d1, d2, d3⟩ := hW2.cells
    obtain ⟨g0, g2, g3⟩ := hW2.free
    obtain ⟨⟨e0, e1, e2, e3⟩, q0, q1, q2, q3⟩ := hW2.res
    have HW2 := Lib.hid hW2
    clear hW2
    go_wp2_with fail
    have hfin := ((HW2.out.setT ⟨t.toArray⟩)).fin
    refine bodyPost_ret (v := .agg #[.int .i64 3, .int .i64 k, .string ⟨t.toArray⟩, .int .u64 0]) (results_cell_row rfl _ _ w.heap.size 33 _ (0, 0) _ rfl hfin.1 Tryz.underlying33 rfl tokSize) rfl ?_
    rw [HR2.out]
    exact ⟨hfin.2.2, rfl, hfin.2.1.trans (by rw [Nat.add_assoc, Nat.add_comm 1])⟩

set_option maxRecDepth 100000 in
set_option maxHeartbeats 4000000 in
theorem token_sign (b : Nat) (s : ByteArray) (k : Nat) (c : UInt8) (w : World) (hb : w.heap[b]? = some (.cells #[.string s, .int .i64 k] 78 (0, 0))) (hs : s.size ≤ 2147483640) (hk : k < s.size) (hc : s[k] = c) (h1 : cls c = 4) :
    Calls Tryz.prog 60 #[.pointer (some ⟨b, 0, none⟩)] w (TokPost b s k (.ok (4, [c], 0, 1)) w) := by
  obtain ⟨c0, c1, f0, f1, hlt0⟩ := two_cells hb
  have hlt' : (k : Int) < (s.size : Int) := by omega
  have HB := Lib.hid hb
  have HC := Lib.hid h1
  obtain ⟨e, he⟩ : ∃ e, e = k + 1 := ⟨_, rfl⟩
  have hke : k ≤ e := by omega
  have hes : e ≤ s.size := by omega
  obtain ⟨t, ht⟩ : ∃ t, s.extract k e = t := ⟨_, rfl⟩
  have htl : t = ⟨[c].toArray⟩ := by
    refine bytes_eq ?_
    rw [← ht, extract_list, he, Nat.add_sub_cancel_left, drop_byte s k hk, hc]; rfl
  have HE := Lib.hid (And.intro he htl)
  clear hb h1 he htl
  go_enter Tryz.func60, Tryz.ntmps60
  go_wp2_with (first | go_quiet ((go_at_call 52; refine Calls.quiet_of_same ((classOf_byte c _).mono fun _ _ h => ⟨by rw [h.1, HC.out], h.2.symm⟩))))
  refine abs_world (TS b s w e 4 k ⟨#[]⟩ 0) (((((TS.start HB.out).drewN _).setK 4)).setR e _ (by rw [HE.out.1]; omega)) ?_
  intro W hW
  clear c0 c1 f0 f1 hlt0
  obtain ⟨c0, c1, f0, f1, hlt0⟩ := two_cells hW.rd
  obtain ⟨d0, d1, d2, d3⟩ := hW.cells
  obtain ⟨g0, g2, g3⟩ := hW.free
  obtain ⟨⟨e0, e1, e2, e3⟩, q0, q1, q2, q3⟩ := hW.res
  have HW := Lib.hid hW
  clear hW
  go_still_tail 12, (by kernel_rfl)
  change wpList _ _ _ _ _ W.drew
  go_wp2_with fail
  have hfin := ((HW.out.setT t)).fin
  refine bodyPost_ret (v := .agg #[.int .i64 4, .int .i64 k, .string t, .int .u64 0]) (results_cell_row rfl _ _ w.heap.size 33 _ (0, 0) _ rfl hfin.1 Tryz.underlying33 rfl tokSize) rfl ⟨hfin.2.2.drew, ?_, by rw [← HE.out.1]; exact hfin.2.1⟩
  rw [HE.out.2]; rfl

set_option maxRecDepth 100000 in
set_option maxHeartbeats 4000000 in
theorem token_none (b : Nat) (s : ByteArray) (k : Nat) (c : UInt8) (w : World) (hb : w.heap[b]? = some (.cells #[.string s, .int .i64 k] 78 (0, 0))) (hk : k < s.size) (hc : s[k] = c) (h1 : ¬ cls c = 1) (h2 : ¬ cls c = 2) (h3 : ¬ cls c = 3) (h4 : ¬ cls c = 4) :
    Calls Tryz.prog 60 #[.pointer (some ⟨b, 0, none⟩)] w (TokPost b s k (.error 240) w) := by
  obtain ⟨c0, c1, f0, f1, hlt0⟩ := two_cells hb
  have hlt' : (k : Int) < (s.size : Int) := by omega
  have HB := Lib.hid hb
  have b1 : (cls c == 1) = false := by simpa using h1
  have b2 : (cls c == 2) = false := by simpa using h2
  have b3 : (cls c == 3) = false := by simpa using h3
  have b4 : (cls c == 4) = false := by simpa using h4
  have HF : Hid (∀ W, Fr (One b) w W → TokPost b s k (.error 240) w (.panicked (refusedAt k 240)) W) := fun W hf => ⟨hf, rfl⟩
  clear hb h1 h2 h3 h4
  go_enter Tryz.func60, Tryz.ntmps60
  go_wp2_with (first | go_quiet ((go_at_call 52; refine Calls.quiet_of_same ((classOf_byte c _).mono fun _ _ h => ⟨h.1, h.2.symm⟩))))
  exact ⟨rfl, HF.out _ (by exact (TS.start (at_ := k) HB.out).fr.drewN _)⟩

end Go.Proofs.YtbdheihjnkfpiaaGreatDoor
