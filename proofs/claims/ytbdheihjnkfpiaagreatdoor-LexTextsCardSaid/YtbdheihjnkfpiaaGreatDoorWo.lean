/-
  read walked: a text's tokens gathered; what gives up is recovered, and told.
-/
import Derived.Test.YtbdheihjnkfpiaaGreatDoorWn
import Derived.Defers
import Derived.Recover
namespace Go.Proofs.YtbdheihjnkfpiaaGreatDoor
open Go Go.RowKit
theorem typeAssert_refused (p er : Int) (w : World) : (Instr.typeAssert (.iface 74 (.agg #[.int .i64 p, .int .i64 er])) 20 74 true).run Tryz.prog w = .ok (.tuple #[.agg #[.int .i64 p, .int .i64 er], .bool true]) w := by kernel_rfl
set_option maxRecDepth 100000 in
set_option maxHeartbeats 2000000 in
theorem catch_refused (a b : Nat) (x y p er : Int) (w : World) (ha : w.heap[a]? = some (.cells #[.int .i64 x] 3 (0, 0))) (hb : w.heap[b]? = some (.cells #[.int .i64 y] 24 (0, 0))) (hab : a ≠ b) :
    CallsD Tryz.prog 41 #[.pointer (some ⟨a, 0, none⟩), .pointer (some ⟨b, 0, none⟩)] (.panicking (refusedAt p er)) w fun e u' w' =>
      e = .returned (.tuple #[]) ∧ u' = .panicking [{ v := .iface 74 (.agg #[.int .i64 p, .int .i64 er]), recovered := true }] ∧
      w'.heap[a]? = some (.cells #[.int .i64 p] 3 (0, 0)) ∧ w'.heap[b]? = some (.cells #[.int .i64 er] 24 (0, 0)) ∧ Fr (Two a b) w w' := by
  have ha0 := cell_of_one ha
  have hb0 := cell_of_one hb
  have ha1 := free_of_one ha
  have hb1 := free_of_one hb
  have hla := lt_of_block ha
  have hlb := lt_of_block hb
  unfold refusedAt
  refine callsD_of_wpS Tryz.func41 rfl fun c₀ cs hu => ?_
  apply wpS_seq
  apply wpS_region
  simp only [Tryz.ntmps41, List.size_toArray, List.length_cons, List.length_nil, Nat.reduceAdd, Nat.reduceSub, Array.replicate_succ, Array.replicate_zero, List.push_toArray, List.append_toArray, List.nil_append, List.cons_append]
  simp [wpOpsS, go_sem, recoverD, hu, Exit.thenS]
  refine wpS_of_wp ?_
  clear hu
  have hta := typeAssert_refused p er
  go_wp2_with (go_region)
  have e1 := at_alloc (o' := .cells #[.int .i64 p, .int .i64 er] 74) ((heap_setCell_other (w.setCell ⟨a, 0, none⟩ (.int .i64 p)) ⟨b, 0, none⟩ a (.int .i64 er) hab).trans (one_setCell (u := .int .i64 p) ha))
  have e2 := at_alloc (o' := .cells #[.int .i64 p, .int .i64 er] 74) (one_setCell (u := .int .i64 er) ((heap_setCell_other w ⟨a, 0, none⟩ b (.int .i64 p) (fun e => hab e.symm)).trans hb))
  have e3 : Fr (Two a b) w (((w.setCell ⟨a, 0, none⟩ (.int .i64 p)).setCell ⟨b, 0, none⟩ (.int .i64 er)).alloc (.cells #[.int .i64 p, .int .i64 er] 74)).drew :=
    ((((Fr.refl _ w).setCell ⟨a, 0, none⟩ _ (fun _ => .inl rfl)).setCell ⟨b, 0, none⟩ _ (fun _ => .inr rfl)).alloc _).drew
  exact ⟨rfl, _, rfl, _, results_none rfl _ _ _, rfl, rfl, e1, e2, e3⟩
set_option maxRecDepth 100000 in
set_option maxHeartbeats 2000000 in
theorem catch_idle (a b : Addr) (w : World) :
    CallsD Tryz.prog 41 #[.pointer (some a), .pointer (some b)] .returning w fun e u' w' => e = .returned (.tuple #[]) ∧ u' = .returning ∧ w = w' := by
  refine callsD_of_wpS Tryz.func41 rfl fun c₀ cs hu => ?_
  apply wpS_seq
  apply wpS_region
  simp only [Tryz.ntmps41, List.size_toArray, List.length_cons, List.length_nil, Nat.reduceAdd, Nat.reduceSub, Array.replicate_succ, Array.replicate_zero, List.push_toArray, List.append_toArray, List.nil_append, List.cons_append]
  simp [wpOpsS, go_sem, recoverD, hu, Exit.thenS]
  refine wpS_of_wp ?_
  go_wp2_with fail
  exact ⟨rfl, _, by cases c₀; simp_all, _, results_none rfl _ _ _, rfl, rfl, rfl⟩

theorem results_read (tmps : Array Value) (w : World) (a b : Nat) (x y : Int) (h4 : tmps.getD 4 undef = .pointer (some ⟨a, 0, none⟩)) (h5 : tmps.getD 5 undef = .pointer (some ⟨b, 0, none⟩)) (ha : w.cell? ⟨a, 0, none⟩ = some (.int .i64 x)) (hb : w.cell? ⟨b, 0, none⟩ = some (.int .i64 y)) :
    (results Tryz.f21 tmps).run Tryz.prog w = .ok (.tuple #[.int .i64 x, .int .i64 y]) w := by
  have h4' : tmps[4]?.getD undef = .pointer (some ⟨a, 0, none⟩) := by simpa using h4
  have h5' : tmps[5]?.getD undef = .pointer (some ⟨b, 0, none⟩) := by simpa using h5
  simp [results, Tryz.results21, go_sem, h4', h5', ha, hb]
/-- read: what has been gathered; the place and the error. -/
def ReadPost (c : Nat) (T : List Tok × Option (Nat × Nat)) (w : World) (e : Ending) (w' : World) : Prop :=
  ∃ v, w'.heap[c]? = some (.cells #[v] 23 (0, 0)) ∧ OwnsT w' w.heap.size v T.1 ∧ Fr (One c) w w' ∧
  match T.2 with
  | none => e = .returned (.tuple #[.int .i64 0, .int .i64 0])
  | some (p, er) => e = .returned (.tuple #[.int .i64 p, .int .i64 er])
set_option maxRecDepth 100000 in
set_option maxHeartbeats 4000000 in
theorem read_any (g : Nat) (hg : ∀ args w, (callFunc g args).run Tryz.prog w = .ok (.enter g args) w) (c : Nat) (s : ByteArray) (w : World) (T : List Tok × Option (Nat × Nat))
    (hG : ∀ (base : Nat) (t : Tok) (v : Value) (ts : List Tok) (wx : World), wx.heap[c]? = some (.cells #[v] 23 (0, 0)) → OwnsT wx base v ts → base ≤ wx.heap.size → c < base → ts.length ≤ 1000000000 →
      Calls Tryz.prog g #[tokV t, .pointer (some ⟨c, 0, none⟩)] wx (GivePost c base (ts ++ [t]) wx))
    (hc : w.heap[c]? = some (.cells #[.slice none 0 0] 23 (0, 0))) (hc16 : 8 ≤ c) (hV : Vars w) (hs : s.size ≤ 1048576) (hT : T = lexFrom 0 s.data.toList) :
    Calls Tryz.prog 21 #[.string s, .func (.func g) #[] #[.pointer (some ⟨c, 0, none⟩)]] w (ReadPost c T w) := by
  have hmf : ∀ (fn : Fn) (first cap : Array Value) (w : World), (Instr.makeFunc fn first cap).run Tryz.prog w = .ok (.func fn first cap) w := fun _ _ _ _ => rfl
  have hcl := lt_of_block hc
  have hle : ¬ (1048576 : Int) < (s.size : Int) := by omega
  have HC := Lib.hid hc
  have HT := Lib.hid hT
  have HG := Lib.hid hG
  have HV := Lib.hid hV
  clear hc hT hG hV
  go_enter_defers Tryz.func21, Tryz.ntmps21
  go_wp2_with fail
  obtain ⟨W3, hW3⟩ : ∃ W3, W3 = ((w.alloc (.cells #[.int .i64 0] 3)).alloc (.cells #[.int .i64 0] 24)).alloc (.cells #[.string s, .int .i64 0] 78) := ⟨_, rfl⟩
  rw [← hW3]
  have a1 : W3.heap[w.heap.size]? = some (.cells #[.int .i64 0] 3 (0, 0)) := by rw [hW3]; exact at_alloc2 (heap_alloc_new w _) _ _
  have a2 : W3.heap[w.heap.size + 1]? = some (.cells #[.int .i64 0] 24 (0, 0)) := by rw [hW3]; exact at_alloc (heap_alloc2_new w _ _) _
  have a3 : W3.heap[w.heap.size + 1 + 1]? = some (.cells #[.string s, .int .i64 (0 : Nat)] 78 (0, 0)) := by
    rw [hW3]
    have := heap_alloc_new ((w.alloc (.cells #[.int .i64 0] 3)).alloc (.cells #[.int .i64 0] 24)) (.cells #[.string s, .int .i64 0] 78)
    simpa using this
  have a4 : W3.heap[c]? = some (.cells #[.slice none 0 0] 23 (0, 0)) := by rw [hW3]; exact at_alloc (at_alloc2 HC.out _ _) _
  have a5 : Fr No w W3 := by rw [hW3]; exact ((((Fr.refl _ _).alloc _).alloc _).alloc _)
  have a6 : W3.heap.size = w.heap.size + 3 := by rw [hW3]; simp
  clear hW3
  refine (step_any g hg (w.heap.size + 1 + 1) c s W3 (.slice none 0 0) T (fun t v ts wx h1 h2 h3 h4 h5 => HG.out _ t v ts wx h1 h2 h3 h4 h5) a3 a4 (OwnsT.nil _ _) (by omega) (by omega) hc16 (HV.out.kept_no a5) (by omega) HT.out).mono ?_
  rintro e w2 ⟨v2, k1, k2, k3, k4⟩
  have b1 := k3.at a1 (by rintro (e | e) <;> omega)
  have b2 := k3.at a2 (by rintro (e | e) <;> omega)
  have b3 : Fr (One c) w w2 := (a5.mono (fun _ _ h => h.elim)).trans k3 (by rintro i hi (e | e); omega; exact e)
  have c1 := cell_of_one b1
  have c2 := cell_of_one b2
  have f1 := free_of_one b1
  have f2 := free_of_one b2
  have hl1 := lt_of_block b1
  have hl2 := lt_of_block b2
  have HB1 := Lib.hid (And.intro b1 b2)
  have HB3 := Lib.hid b3
  have HK := Lib.hid (And.intro k1 k2)
  have HA6 := Lib.hid a6
  clear a1 a2 a3 a4 a5 a6 b1 b2 b3 k1 k2 k3
  cases hT2 : T.2 with
  | none =>
    rw [hT2] at k4
    subst k4
    have HFin : Hid (∀ w3, Fr (Two w.heap.size (w.heap.size + 1)) w2 w3 → ReadPost c T w (.returned (.tuple #[.int .i64 0, .int .i64 0])) w3) := fun w3 hf => by
      have h6 := HA6.out
      exact ⟨v2, hf.at HK.out.1 (by rintro (e | e) <;> omega), owns_base (HK.out.2.kept hf (by rintro k hk (e | e) <;> omega)) (by omega), HB3.out.trans hf (by rintro i hi (e | e) <;> omega), by rw [hT2]⟩
    clear hT2
    go_wp2_with fail
    refine leaves_cons (f := 41) (args := #[.pointer (some ⟨w.heap.size, 0, none⟩), .pointer (some ⟨w.heap.size + 1, 0, none⟩)]) (by simp) (by simp [go_sem]) ?_
    refine (catch_idle _ _ _).mono ?_
    rintro e u' w'' ⟨rfl, rfl, rfl⟩
    have d1 := cell_of_one ((heap_setCell_other (w2.setCell ⟨w.heap.size, 0, none⟩ (.int .i64 0)) ⟨w.heap.size + 1, 0, none⟩ w.heap.size (.int .i64 0) (by simp)).trans (one_setCell (u := .int .i64 0) HB1.out.1))
    have d2 := cell_of_one (one_setCell (u := .int .i64 0) ((heap_setCell_other w2 ⟨w.heap.size, 0, none⟩ (w.heap.size + 1) (.int .i64 0) (by simp)).trans HB1.out.2))
    have d3 : Fr (Two w.heap.size (w.heap.size + 1)) w2 ((w2.setCell ⟨w.heap.size, 0, none⟩ (.int .i64 0)).setCell ⟨w.heap.size + 1, 0, none⟩ (.int .i64 0)) := ((Fr.refl _ _).setCell ⟨w.heap.size, 0, none⟩ _ (fun _ => .inl rfl)).setCell ⟨w.heap.size + 1, 0, none⟩ _ (fun _ => .inr rfl)
    exact ⟨_, results_read _ _ _ _ _ _ rfl rfl d1 d2, HFin.out _ d3⟩
  | some pe =>
    obtain ⟨p, er⟩ := pe
    rw [hT2] at k4
    dsimp only at k4
    subst k4
    have HFin : Hid (∀ w3, Fr (Two w.heap.size (w.heap.size + 1)) w2 w3 → ReadPost c T w (.returned (.tuple #[.int .i64 p, .int .i64 er])) w3) := fun w3 hf => by
      have h6 := HA6.out
      exact ⟨v2, hf.at HK.out.1 (by rintro (e | e) <;> omega), owns_base (HK.out.2.kept hf (by rintro k hk (e | e) <;> omega)) (by omega), HB3.out.trans hf (by rintro i hi (e | e) <;> omega), by rw [hT2]⟩
    clear hT2
    refine leaves_cons (f := 41) (args := #[.pointer (some ⟨w.heap.size, 0, none⟩), .pointer (some ⟨w.heap.size + 1, 0, none⟩)]) (by simp) (by simp [go_sem]) ?_
    refine (catch_refused w.heap.size (w.heap.size + 1) 0 0 p er w2 HB1.out.1 HB1.out.2 (by omega)).mono ?_
    rintro e u' w'' ⟨rfl, rfl, d1, d2, d3⟩
    exact ⟨_, results_read _ _ _ _ _ _ rfl rfl (cell_of_one d1) (cell_of_one d2), HFin.out _ d3⟩
set_option maxRecDepth 100000 in
set_option maxHeartbeats 2000000 in
theorem read_long (f : Value) (s : ByteArray) (w : World) (hs : 1048576 < s.size) (hm : s.size ≤ maxLen) :
    Calls Tryz.prog 21 #[.string s, f] w fun e w' => e = .returned (.tuple #[.int .i64 0, .int .i64 3]) ∧ Fr No w w' := by
  have hmf : ∀ (fn : Fn) (first cap : Array Value) (w : World), (Instr.makeFunc fn first cap).run Tryz.prog w = .ok (.func fn first cap) w := fun _ _ _ _ => rfl
  unfold maxLen at hm
  have hle : (1048576 : Int) < (s.size : Int) := by omega
  go_enter_defers Tryz.func21, Tryz.ntmps21
  go_wp2_with fail
  exact ⟨_, results_read _ _ _ _ _ _ rfl rfl (cell_of_one (heap_alloc2_old w _ _)) (cell_of_one (heap_alloc2_new w _ _)), rfl, ((Fr.refl _ _).alloc _).alloc _⟩
theorem tokAt_err {l : Bytes} {e : Nat} (h : tokAt l = .error e) : e = 240 ∨ e = 4 := by
  cases l with
  | nil => rw [tokAt] at h; cases h; exact .inl rfl
  | cons c r =>
    rw [tokAt] at h
    by_cases h1 : cls c = 1
    · rw [if_pos h1] at h; cases h
    · rw [if_neg h1] at h
      by_cases h2 : cls c = 2
      · rw [if_pos h2] at h
        have hn : ∀ s e, numOf s = .error e → e = 240 ∨ e = 4 := by
          intro s e h
          unfold numOf at h
          dsimp only at h
          generalize (if s.take 2 = [48, 120] ∨ s.take 2 = [48, 88] then s.drop 2 else s) = p at h
          generalize (if s.take 2 = [48, 120] ∨ s.take 2 = [48, 88] then isHex else if 1 < s.length ∧ s.head? = some 48 then isEight else isTen) = q at h
          generalize (if s.take 2 = [48, 120] ∨ s.take 2 = [48, 88] then 16 else if 1 < s.length ∧ s.head? = some 48 then 8 else 10) = bs at h
          by_cases c1 : p = [] ∨ ¬ p.all q = true
          · rw [if_pos c1] at h; cases h; exact .inl rfl
          · rw [if_neg c1] at h
            by_cases c2 : 18446744073709551616 ≤ valOf bs p
            · rw [if_pos c2] at h; cases h; exact .inr rfl
            · rw [if_neg c2] at h; cases h
        cases hx : numOf ((c :: r).take (wordLen (c :: r))) with
        | error e2 => rw [hx] at h; cases h; exact hn _ _ hx
        | ok y => rw [hx] at h; cases h
      · rw [if_neg h2] at h
        by_cases h3 : cls c = 3
        · rw [if_pos h3] at h
          cases ht : textRun c r with
          | none => rw [ht] at h; cases h; exact .inl rfl
          | some tn => rw [ht] at h; cases h
        · rw [if_neg h3] at h
          by_cases h4 : cls c = 4
          · rw [if_pos h4] at h; cases h
          · rw [if_neg h4] at h; cases h; exact .inl rfl
theorem lexFrom_err : ∀ (m : Nat) (l : Bytes), l.length ≤ m → ∀ p q e, (lexFrom p l).2 = some (q, e) → e = 240 ∨ e = 4 := by
  intro m
  induction m with
  | zero =>
    intro l hl p q e h
    have : l = [] := List.eq_nil_of_length_eq_zero (by omega)
    subst this
    have hg : gapLen [] = (0, true) := by rw [gapLen]
    rw [lexFrom_ok (by rw [hg])] at h
    unfold lexAt at h
    rw [hg, if_pos (by rfl)] at h
    cases h
  | succ m ih =>
    intro l hl p q e h
    cases hg : (gapLen l).2 with
    | false => rw [lexFrom_bad hg] at h; cases h; exact .inl rfl
    | true =>
      rw [lexFrom_ok hg] at h
      unfold lexAt at h
      by_cases hn : l.drop (gapLen l).1 = []
      · rw [if_pos hn] at h; cases h
      · rw [if_neg hn] at h
        cases ht : tokAt (l.drop (gapLen l).1) with
        | error er => rw [ht] at h; cases h; exact tokAt_err ht
        | ok r =>
          obtain ⟨k, t, x, n⟩ := r
          rw [ht] at h
          refine ih _ ?_ _ _ _ h
          have h1 := (tokAt_pos ht).1
          have h2 := tokAt_len ht
          rw [List.length_drop] at h2 ⊢
          rw [List.length_drop]
          have : 0 < (l.drop (gapLen l).1).length := List.length_pos_iff.2 hn
          rw [List.length_drop] at this
          omega
end Go.Proofs.YtbdheihjnkfpiaaGreatDoor