/-
  Slices of tokens that a call has made; the closures that gather tokens.
-/
import Derived.Test.YtbdheihjnkfpiaaGreatDoorWl
namespace Go.Proofs.YtbdheihjnkfpiaaGreatDoor
open Go Go.RowKit

theorem token_any (b : Nat) (s : ByteArray) (k : Nat) (w : World) (hb : w.heap[b]? = some (.cells #[.string s, .int .i64 k] 78 (0, 0))) (hb16 : 8 ≤ b) (hV : Vars w) (hs : s.size ≤ 2147483640) (hk : k < s.size) :
    Calls Tryz.prog 60 #[.pointer (some ⟨b, 0, none⟩)] w (TokPost b s k (tokAt (s.data.toList.drop k)) w) := by
  have hd := drop_byte s k hk
  obtain ⟨c, hc⟩ : ∃ c, s[k] = c := ⟨_, rfl⟩
  rw [hc] at hd
  by_cases h1 : cls c = 1
  · have e : tokAt (s.data.toList.drop k) = .ok (1, (s.data.toList.drop k).take (wordLen (s.data.toList.drop k)), 0, wordLen (s.data.toList.drop k)) := by
      rw [hd, tokAt]; simp only [if_pos h1]
    rw [e]; exact token_name b s k c w hb hs hk hc h1
  · by_cases h2 : cls c = 2
    · refine token_num b s k c w hb hb16 hV hs hk hc h2 _ ?_
      rw [hd, tokAt]; simp only [if_neg h1, if_pos h2]
      generalize numOf _ = r
      cases r <;> rfl
    · by_cases h3 : cls c = 3
      · refine token_text b s k c w hb hb16 hV hs hk hc h3 _ ?_
        rw [hd, tokAt]; simp only [if_neg h1, if_neg h2, if_pos h3]
        generalize textRun _ _ = r
        cases r <;> rfl
      · by_cases h4 : cls c = 4
        · have e : tokAt (s.data.toList.drop k) = .ok (4, [c], 0, 1) := by
            rw [hd, tokAt]; simp only [if_neg h1, if_neg h2, if_neg h3, if_pos h4]
          rw [e]; exact token_sign b s k c w hb hs hk hc h4
        · have e : tokAt (s.data.toList.drop k) = .error 240 := by
            rw [hd, tokAt]; simp only [if_neg h1, if_neg h2, if_neg h3, if_neg h4]
          rw [e]; exact token_none b s k c w hb hk hc h1 h2 h3 h4

/-- A token's cells. -/
def tokCells (t : Tok) : List Value := [.int .i64 t.kind, .int .i64 t.place, .string ⟨t.text.toArray⟩, .int .u64 t.num]
/-- The slice v owns these tokens, in a block from base on (or it is nil, and there are none). -/
def OwnsT (w : World) (base : Nat) (v : Value) (ts : List Tok) : Prop := w.ownsRow base 33 4 v ts.length (ts.flatMap tokCells)
theorem OwnsT.nil (w : World) (base : Nat) : OwnsT w base (.slice none 0 0) [] := World.ownsRow_nil w base _ _
theorem OwnsT.kept {X : Nat → Prop} {w w' : World} {base : Nat} {v : Value} {ts : List Tok} (h : OwnsT w base v ts) (hf : Fr X w w') (hx : ∀ k, base ≤ k → ¬ X k) : OwnsT w' base v ts :=
  hf.owns h fun k hk => hx k ((World.ownsRow.lt h k hk).1)
theorem OwnsT.drewN {w : World} {base : Nat} {v : Value} {ts : List Tok} (h : OwnsT w base v ts) (n : Nat) : OwnsT (w.drewN n) base v ts := h
theorem infoTok : (Tryz.prog.info? 33).map (fun i => (i.zero, i.size, i.bytes)) = some (some (.agg #[.int .i64 0, .int .i64 0, .string ⟨#[]⟩, .int .u64 0]), 4, 40) := by kernel_rfl
/-- 'append(l, t)' to a slice of tokens that the call has made. -/
theorem wpList_append_tok {w : World} {ops : Array Oper} {rest : List Oper} {o : Oper} {a : Act} {Q : Exit → Act → World → Prop} (hgd : o.guard = none) (s x : Operand)
    (ho : o.op = .call { callee := .builtin .append, args := #[s, x], argTypes := #[23, 23] })
    (base : Nat) (v : Value) (ts : List Tok) (hs : a.eval s = v) (hown : OwnsT w base v ts) (g c : Nat) (t : Tok) (hx : a.eval x = .slice (some ⟨g, 0, none⟩) 1 c)
    (hcell : w.heap[g]? = some (.cells (tokCells t).toArray 33 (0, 0)))
    (hlen : ts.length ≤ 1000000000) (hbase : base ≤ w.heap.size)
    (h : ∀ v' w', OwnsT w' base v' (ts ++ [t]) → Fr (fun k => base ≤ k) w w' → wpList Tryz.prog ops Q rest (a.put o.dst v') w') : wpList Tryz.prog ops Q (o :: rest) a w := by
  obtain ⟨i0, hi, hz0, hz1, hz2⟩ := info_parts infoTok
  refine wpList_append_own (P := Tryz.prog) w hgd s x 23 ho base 33 i0 _ 4 40 Tryz.underlying23 hi hz0 hz1 hz2 rfl (by decide) v ts.length (ts.flatMap tokCells) hs hown ⟨g, 0, none⟩ 1 c (tokCells t) hx rfl ?_ ?_ ?_ ?_ hbase ?_
  · intro j u hu
    have hadd : (⟨g, 0, none⟩ : Addr).add j = ⟨g, j, none⟩ := by unfold Addr.add; split <;> simp_all
    rw [hadd, cell_of_row w g j _ _ (0, 0) hcell]
    simpa using hu
  · intro u hu
    simp only [tokCells, List.mem_cons, List.mem_nil_iff, or_false] at hu
    rcases hu with rfl | rfl | rfl | rfl <;> rfl
  · unfold maxLen; omega
  · omega
  · intro v' w' h1 h2 _
    refine h v' w' ?_ ((Fr.refl _ _).grown h2 fun k hk _ => (World.ownsRow.lt hown k hk).1)
    unfold OwnsT
    rw [List.flatMap_append, List.length_append]
    simpa using h1
theorem OwnsT.form {w : World} {base : Nat} {v : Value} {ts : List Tok} {t : Tok} (h : OwnsT w base v (ts ++ [t])) : ∃ a n c, v = .slice (some a) n c := by
  rcases h.2 with ⟨_, hn⟩ | ⟨g, cap, cur, rfl, _⟩
  · simp at hn
  · exact ⟨_, _, _, rfl⟩
theorem OwnsT.shape {w : World} {base : Nat} {v : Value} {ts : List Tok} (h : OwnsT w base v ts) : ∃ a n c, v = .slice a n c := by
  rcases h.2 with ⟨rfl, _⟩ | ⟨g, cap, cur, rfl, _⟩
  · exact ⟨_, _, _, rfl⟩
  · exact ⟨_, _, _, rfl⟩
/-- What a round hands on: the token is appended to what is gathered. -/
def GivePost (c base : Nat) (ts : List Tok) (w : World) (e : Ending) (w' : World) : Prop :=
  e = .returned (.bool true) ∧ ∃ v, w'.heap[c]? = some (.cells #[v] 23 (0, 0)) ∧ OwnsT w' base v ts ∧ Fr (fun k => k = c ∨ base ≤ k) w w'
theorem at_alloc2 {w : World} {b : Nat} {o : Obj} (h : w.heap[b]? = some o) (o1 o2 : Obj) : ((w.alloc o1).alloc o2).heap[b]? = some o :=
  (Below.heap_alloc _ o2 b (by have := lt_of_block h; simp; omega)).trans ((Below.heap_alloc w o1 b (lt_of_block h)).trans h)
set_option maxRecDepth 100000 in
set_option maxHeartbeats 2000000 in
theorem give_Lex (t : Tok) (c base : Nat) (v : Value) (ts : List Tok) (w : World) (hc : w.heap[c]? = some (.cells #[v] 23 (0, 0))) (hown : OwnsT w base v ts) (hbase : base ≤ w.heap.size) (hcb : c < base) (hlen : ts.length ≤ 1000000000) :
    Calls Tryz.prog 22 #[tokV t, .pointer (some ⟨c, 0, none⟩)] w (GivePost c base (ts ++ [t]) w) := by
  obtain ⟨va, vn, vc, rfl⟩ := hown.shape
  have hc0 := cell_of_one hc
  have hf0 := free_of_one hc
  have hlt := lt_of_block hc
  have HC := Lib.hid hc
  have HO := Lib.hid hown
  clear hc hown
  unfold tokV
  go_enter Tryz.func22, Tryz.ntmps22
  go_wp2_with (at_builtin; go_must (refine wpList_append_tok rfl _ _ rfl base _ ts rfl (by exact HO.out.kept (((Fr.refl No w).alloc _).alloc _) (fun _ _ h => h)) _ _ t rfl (by exact heap_alloc2_new w _ _) hlen (by simp; omega) ?_); intro v2 w2 hown2 hf2; have hc2 := hf2.at (at_alloc2 HC.out (.cells (tokCells t).toArray 33) (.cells (tokCells t).toArray 33)) (fun (h : base ≤ c) => by omega); obtain ⟨a2, n2, k2, rfl⟩ := hown2.form; have hcc2 := cell_of_one hc2; have hff2 := free_of_one hc2; have HC2 := Lib.hid hc2; have HO2 := Lib.hid hown2; have HF2 := Lib.hid hf2; clear hc2 hown2 hf2 hc0 hf0)
  go_ret
  refine ⟨rfl, _, one_setCell HC2.out, HO2.out.kept ((Fr.refl (fun k => k = c) _).setCell ⟨c, 0, none⟩ _ (fun _ => rfl)) (fun i hi e => by have e2 : i = c := e; omega), ?_⟩
  exact (((((Fr.refl _ w).alloc _).alloc _).trans HF2.out (fun i _ h => .inr h)).setCell ⟨c, 0, none⟩ _ (fun _ => .inl rfl))
set_option maxRecDepth 100000 in
set_option maxHeartbeats 2000000 in
theorem give_All (t : Tok) (c base : Nat) (v : Value) (ts : List Tok) (w : World) (hc : w.heap[c]? = some (.cells #[v] 23 (0, 0))) (hown : OwnsT w base v ts) (hbase : base ≤ w.heap.size) (hcb : c < base) (hlen : ts.length ≤ 1000000000) :
    Calls Tryz.prog 26 #[tokV t, .pointer (some ⟨c, 0, none⟩)] w (GivePost c base (ts ++ [t]) w) := by
  obtain ⟨va, vn, vc, rfl⟩ := hown.shape
  have hc0 := cell_of_one hc
  have hf0 := free_of_one hc
  have hlt := lt_of_block hc
  have HC := Lib.hid hc
  have HO := Lib.hid hown
  clear hc hown
  unfold tokV
  go_enter Tryz.func26, Tryz.ntmps26
  go_wp2_with (at_builtin; go_must (refine wpList_append_tok rfl _ _ rfl base _ ts rfl (by exact HO.out.kept (((Fr.refl No w).alloc _).alloc _) (fun _ _ h => h)) _ _ t rfl (by exact heap_alloc2_new w _ _) hlen (by simp; omega) ?_); intro v2 w2 hown2 hf2; have hc2 := hf2.at (at_alloc2 HC.out (.cells (tokCells t).toArray 33) (.cells (tokCells t).toArray 33)) (fun (h : base ≤ c) => by omega); obtain ⟨a2, n2, k2, rfl⟩ := hown2.form; have hcc2 := cell_of_one hc2; have hff2 := free_of_one hc2; have HC2 := Lib.hid hc2; have HO2 := Lib.hid hown2; have HF2 := Lib.hid hf2; clear hc2 hown2 hf2 hc0 hf0)
  go_ret
  refine ⟨rfl, _, one_setCell HC2.out, HO2.out.kept ((Fr.refl (fun k => k = c) _).setCell ⟨c, 0, none⟩ _ (fun _ => rfl)) (fun i hi e => by have e2 : i = c := e; omega), ?_⟩
  exact (((((Fr.refl _ w).alloc _).alloc _).trans HF2.out (fun i _ h => .inr h)).setCell ⟨c, 0, none⟩ _ (fun _ => .inl rfl))
end Go.Proofs.YtbdheihjnkfpiaaGreatDoor
