/-
  The going over a text's tokens (protolex.All): its iterator's contract.
-/
import Derived.RangeFuncNested
import Derived.RangeFuncBound
import Derived.RangeFuncCalls
import Derived.RangeFuncLeaves
import Derived.Shelf.Abstract
import Derived.Shelf.RegionOpen
import Derived.OwnWalkIn
import Derived.TacticsInMore
import Derived.LoopNIn
import Derived.LoopIn
import Derived.Test.YtbdheihjnkfpiaaGreatDoorBk
namespace Go.Proofs.YtbdheihjnkfpiaaGreatDoor
open Go Go.RowKit Go.Shelf
attribute [local go_sem] Oper.semAt_some
/-- What a round keeps: cells outside X. -/
def KeepX (X : Nat → Prop) (A B : World) : Prop := A.heap.size ≤ B.heap.size ∧ ∀ k o, A.heap[k]? = some o → o.isCells = true → ¬ X k → B.heap[k]? = some o
theorem KeepX.refl (X : Nat → Prop) (A : World) : KeepX X A A := ⟨Nat.le_refl _, fun _ _ h _ _ => h⟩
theorem KeepX.trans {X : Nat → Prop} {A B C : World} (h : KeepX X A B) (k : KeepX X B C) : KeepX X A C := ⟨Nat.le_trans h.1 k.1, fun i o hi ho hx => k.2 i o (h.2 i o hi ho hx) ho hx⟩
theorem KeepX.put {X : Nat → Prop} (W : World) (l : Nat) (o o' : Obj) (h : W.heap[l]? = some o) (hc : o.isCells = false) : KeepX X W (W.putObj l o') :=
  ⟨by simp, fun k q hk hq _ => by
    have : k ≠ l := fun e => by subst e; rw [h] at hk; cases hk; rw [hc] at hq; cases hq
    rw [World.putObj_heap_other this]; exact hk⟩
theorem KeepX.ofFr {X : Nat → Prop} {A B : World} (h : Fr X A B) : KeepX X A B := ⟨h.size, fun _ _ hk _ hx => h.at hk hx⟩
theorem KeepX.cell {X : Nat → Prop} {A B : World} (h : KeepX X A B) {p : Addr} {v : Value} (hc : A.cell? p = some v) (hx : ¬ X p.block) : B.cell? p = some v := by
  obtain ⟨b, o, q⟩ := p
  unfold World.cell? at hc ⊢
  dsimp only at hc hx ⊢
  cases hb : A.heap[b]? with
  | none => rw [hb] at hc; simp at hc
  | some ob =>
    cases hk : ob.isCells with
    | false => rw [hb] at hc; cases ob <;> simp_all [Obj.isCells]
    | true => rw [h.2 b ob hb hk hx]; rw [hb] at hc; exact hc
/-- The tokens stand at a slice's cells, in a block from n on. -/
def TokB (n : Nat) (w : World) (a : Option Addr) (l : List PT) : Prop :=
  l = [] ∨ ∃ b off, a = some ⟨b, off, none⟩ ∧ n ≤ b ∧ b < w.heap.size ∧ ∀ j (h : j < l.length), ∀ i v, (ptCells l[j])[i]? = some v → w.cell? ⟨b, off + j * 4 + i, none⟩ = some v
theorem cell_lt {w : World} {b o : Nat} {v : Value} (h : w.cell? ⟨b, o, none⟩ = some v) : b < w.heap.size := by
  unfold World.cell? at h
  dsimp only at h
  cases hb : w.heap[b]? with
  | none => rw [hb] at h; simp at h
  | some ob => exact lt_of_block hb
theorem TokB.keep {n : Nat} {X : Nat → Prop} {w w' : World} {a : Option Addr} {l : List PT} (h : TokB n w a l) (hk : KeepX X w w') (hX : ∀ k, n ≤ k → ¬ X k) : TokB n w' a l := by
  rcases h with h | ⟨b, off, e, hn, hl, hc⟩
  · exact .inl h
  · exact .inr ⟨b, off, e, hn, Nat.lt_of_lt_of_le hl hk.1, fun j h i v hi => hk.cell (hc j h i v hi) (hX b hn)⟩
theorem TokB.le {n m : Nat} {w : World} {a : Option Addr} {l : List PT} (h : TokB n w a l) (hm : m ≤ n) : TokB m w a l := by
  rcases h with h | ⟨b, off, e, hn, hl, hc⟩
  · exact .inl h
  · exact .inr ⟨b, off, e, Nat.le_trans hm hn, hl, hc⟩
theorem TokB.cells4 {n : Nat} {w : World} {a : Option Addr} {l : List PT} (h : TokB n w a l) (k : Nat) (hk : k < l.length) : ∃ b off, a = some ⟨b, off, none⟩ ∧ b < w.heap.size ∧ w.cell? ⟨b, off + k * 4, none⟩ = some (.int .i64 l[k].kind) ∧ w.cell? ⟨b, off + k * 4 + 1, none⟩ = some (.int .i64 l[k].place) ∧ w.cell? ⟨b, off + k * 4 + 2, none⟩ = some (.string ⟨l[k].text.toArray⟩) ∧ w.cell? ⟨b, off + k * 4 + 3, none⟩ = some (.int .u64 l[k].num) := by
  rcases h with h0 | ⟨b, off, rfl, hn, hb, hc⟩
  · subst h0; simp at hk
  · exact ⟨b, off, rfl, hb, hc k hk 0 _ rfl, hc k hk 1 _ rfl, hc k hk 2 _ rfl, hc k hk 3 _ rfl⟩
theorem TokB.toks {n : Nat} {w : World} {a : Option Addr} {l : List PT} (h : TokB n w a l) : Toks w a l := by
  rcases h with h | ⟨b, off, e, hn, hl, hc⟩
  · exact .inl h
  · exact .inr ⟨b, off, e, hl, hc⟩
theorem OwnsT.tokB {w : World} {base : Nat} {v : Value} {ts : List Tok} (h : OwnsT w base v ts) : ∃ a cp, v = .slice a ts.length cp ∧ TokB base w a (ts.map Tok.pt) := by
  unfold OwnsT at h
  rcases h.2 with ⟨hv, hn⟩ | ⟨g, cap, cur, hv, hb, hg, hc, hm, hs, ht⟩
  · obtain rfl : ts = [] := List.eq_nil_of_length_eq_zero hn
    exact ⟨none, 0, hv, .inl rfl⟩
  · refine ⟨some ⟨g, 0, none⟩, cap, hv, .inr ⟨g, 0, rfl, hb, lt_of_block hg, ?_⟩⟩
    intro j hj i x hx
    have hj' : j < ts.length := by simpa using hj
    have hlen : i < 4 := by
      have := (List.getElem?_eq_some_iff.1 hx).1
      simpa [ptCells] using this
    have h1 := World.ownsRow.cellAt (hv ▸ h) (j * 4 + i) (by omega)
    rw [Nat.zero_add, h1, flat_at ts j hj' i hlen]
    have e : (ts.map Tok.pt)[j] = ts[j].pt := by simp
    rw [e] at hx
    exact hx
/-- read gathers a text's tokens up to the first that can't be read. -/
theorem read_some (c : Nat) (s : ByteArray) (w : World) (T : List Tok) (hT : T = (some14 s.data.toList).1)
    (hc : w.heap[c]? = some (.cells #[.slice none 0 0] 23 (0, 0))) (hc16 : 8 ≤ c) (hV : Vars w) (hs : s.size ≤ maxLen) :
    Calls Tryz.prog 21 #[.string s, .func (.func 26) #[] #[.pointer (some ⟨c, 0, none⟩)]] w fun e w' =>
      (∃ p q : Int, e = .returned (.tuple #[.int .i64 p, .int .i64 q])) ∧ (∃ a cp, w'.heap[c]? = some (.cells #[.slice a T.length cp] 23 (0, 0)) ∧ TokB w.heap.size w' a (T.map Tok.pt)) ∧ Fr (One c) w w' := by
  have hen : ∀ args w, (callFunc 26 args).run Tryz.prog w = .ok (.enter 26 args) w := enters_of Tryz.func26 (by kernel_rfl) rfl
  have hlen : s.data.toList.length = s.size := by simp
  by_cases hlong : 1048576 < s.size
  · refine (read_long _ s w hlong hs).mono ?_
    rintro e w' ⟨rfl, hf⟩
    have hT0 : T = [] := by rw [hT]; unfold some14; rw [if_pos (by unfold maxText; omega)]
    subst hT0
    exact ⟨⟨0, 3, rfl⟩, ⟨none, 0, hf.at hc (fun h => h), .inl rfl⟩, hf.mono (fun _ _ h => h.elim)⟩
  · refine (read_any 26 hen c s w (lexFrom 0 s.data.toList) (fun base t v ts wx h1 h2 h3 h4 h5 => give_All t c base v ts wx h1 h2 h3 h4 h5) hc hc16 hV (by omega) rfl).mono ?_
    rintro e w' ⟨v, h1, h2, h3, h4⟩
    have hT0 : T = (lexFrom 0 s.data.toList).1 := by
      rw [hT]; unfold some14; rw [if_neg (by unfold maxText; omega)]
      cases hx : lexFrom 0 s.data.toList with
      | mk l o => cases o with
        | none => rfl
        | some pe => rfl
    rw [← hT0] at h2
    obtain ⟨a, cp, rfl, ht⟩ := h2.tokB
    refine ⟨?_, ⟨a, cp, h1, ht⟩, h3⟩
    cases hx : (lexFrom 0 s.data.toList).2 with
    | none => rw [hx] at h4; exact ⟨0, 0, h4⟩
    | some pe => rw [hx] at h4; exact ⟨pe.1, pe.2, h4⟩
theorem some14_len (s : Bytes) : (some14 s).1.length ≤ 1048576 := by
  unfold some14
  by_cases h : maxText < s.length
  · rw [if_pos h]; exact Nat.zero_le _
  · rw [if_neg h]
    have h1 := lexFrom_len _ s (Nat.le_refl _) 0
    unfold maxText at h
    cases hx : lexFrom 0 s with
    | mk l o =>
      rw [hx] at h1
      cases o with
      | none => exact Nat.le_trans h1 (by omega)
      | some pe => exact Nat.le_trans h1 (by omega)
/-- What yield is handed in round k. -/
def encT (T : List Tok) (k : Nat) : Array Value := #[.int .i64 (k : Int), tokV (T.getD k ⟨0, 0, [], 0⟩)]
theorem range_snoc (k : Nat) : List.range k ++ [k] = List.range (k + 1) := by rw [List.range_succ]
set_option maxRecDepth 100000 in
set_option maxHeartbeats 4000000 in
/-- The closure that All hands back. -/
theorem all1_in (s : ByteArray) (n : Nat) (hn : 2 ≤ n) (l Bs : Nat) (X : Nat → Prop) (T : List Tok) (hT : T = (some14 s.data.toList).1) (J Jx : List Nat → World → Prop)
    (hY : ∀ pre x W, J pre W → pre.length < T.length → YieldAt Fence.wide (n - 1) Tryz.prog l (encT T x) W fun e W' =>
      (e = .returned (.bool true) ∧ J (pre ++ [x]) W' ∧ KeepX X W W') ∨ (e = .returned (.bool false) ∧ Jx (pre ++ [x]) W'))
    (W : World) (hX : ∀ k, W.heap.size ≤ k → ¬ X k) (hJ : ∀ s A B, J s A → Fr No A B → J s B) (hBs : W.cell? ⟨Bs, 0, none⟩ = some (.string s)) (hV : Vars W) (h8 : 8 ≤ W.heap.size) (hs : s.size ≤ maxLen) (h0 : J [] W) :
    CallsIn Fence.wide n Tryz.prog 25 #[.func (.yield l) #[] #[], .pointer (some ⟨Bs, 0, none⟩)] W fun e W' => (∃ v, e = .returned v) ∧
      ((∃ ys, ys = List.range T.length ∧ J ys W') ∨ (∃ pre, (∃ k, k ≤ T.length ∧ pre = List.range k) ∧ Jx pre W')) := by
  have HR := Lib.hid (fun (wx : World) hc hv => read_some W.heap.size s wx T hT hc h8 hv hs)
  obtain ⟨m, hm⟩ : ∃ m, T.length = m := ⟨_, rfl⟩
  rw [hm] at HR hY ⊢
  have hm2 : m ≤ 1048576 := by rw [← hm, hT]; exact some14_len _
  have HM := Lib.hid hm
  have HY := Lib.hid hY
  clear hT hm hY
  have h1n : 1 ≤ n := by omega
  have HV := Lib.hid hV
  have hBl : Bs < W.heap.size := cell_lt hBs
  have hB2 : (W.alloc (.cells #[.slice none 0 0] 23)).cell? ⟨Bs, 0, none⟩ = some (.string s) := (((Fr.refl No W).alloc _).cell (p := ⟨Bs, 0, none⟩) hBl (fun h => h)).trans hBs
  clear hV
  have hmf : ∀ (fn : Fn) (first cap : Array Value) (w : World), (Instr.makeFunc fn first cap).run Tryz.prog w = .ok (.func fn first cap) w := fun _ _ _ _ => rfl
  refine callsIn_of_wp Tryz.func25 rfl trivial ?_ rfl
  simp only [Tryz.ntmps25, List.size_toArray, List.length_cons, List.length_nil, Nat.reduceAdd, Nat.reduceSub, Array.replicate_succ, Array.replicate_zero, List.push_toArray, List.append_toArray, List.nil_append, List.cons_append]
  gi_wp2_with (refine ⟨trivial, ?_⟩; gi_at_call 21; refine (callsIn_wide.2 (HR.out _ (by exact heap_alloc_new W _) (HV.out.kept_no ((Fr.refl _ _).alloc _)))).mono ?_; rintro e w2 ⟨⟨p, q, rfl⟩, ⟨a, cp, hc, ht⟩, hf⟩; have hc0 := cell_of_one hc; have HC := Lib.hid (And.intro hc (And.intro ht hf)); clear hc ht hf)
  have hfw : Fr No W w2 := ((Fr.refl _ W).alloc _).trans HC.out.2.2 (fun i hi e => by have e2 : i = W.heap.size := e; omega)
  have HTB : Hid (TokB W.heap.size w2 a (T.map Tok.pt)) := Lib.hid (HC.out.2.1.le (by simp))
  have HJ0 := Lib.hid (hJ _ _ _ h0 hfw)
  clear hfw hc0
  gi_loopw [11] (fun i wr => ∃ k : Nat, k ≤ m ∧ i = .int .i64 k ∧ Hid (J (List.range k) wr ∧ TokB W.heap.size wr a (T.map Tok.pt))) (fun i _ => m - (intOf i).toNat)
  case atStart => exact ⟨0, Nat.zero_le _, rfl, Lib.hid ⟨HJ0.out, HTB.out⟩⟩
  case round =>
    obtain ⟨k, hk, rfl, HJ⟩ := hrel
    by_cases hlt : k < m
    · obtain ⟨b1, o1, ha, hb1', c0, c1, c2, c3⟩ := HJ.out.2.cells4 k (by rw [List.length_map, HM.out]; exact hlt)
      subst ha
      have hkT : k < T.length := by rw [HM.out]; exact hlt
      rw [List.getElem_map] at c0 c1 c2 c3
      have hen : encT T k = #[.int .i64 (k : Int), .agg #[.int .i64 T[k].pt.kind, .int .i64 T[k].pt.place, .string ⟨T[k].pt.text.toArray⟩, .int .u64 T[k].pt.num]] := by
        unfold encT tokV; rw [List.getD_eq_getElem?_getD, List.getElem?_eq_getElem hkT]; rfl
      generalize T[k].pt.kind = y0 at c0 hen
      generalize T[k].pt.place = y1 at c1 hen
      generalize (⟨T[k].pt.text.toArray⟩ : ByteArray) = y2 at c2 hen
      generalize T[k].pt.num = y3 at c3 hen
      obtain ⟨fn, tmps, assign, body, hy, hR⟩ := HY.out _ k (wr.alloc (.cells #[.int .i64 y0, .int .i64 y1, .string y2, .int .u64 y3] 33)) (hJ _ _ _ HJ.out.1 ((Fr.refl _ _).alloc _)) (by rw [List.length_range]; exact hlt)
      rw [hen] at hy
      have HT2 := Lib.hid (HJ.out.2.keep (KeepX.ofFr (X := X) ((Fr.refl X wr).alloc (.cells #[.int .i64 y0, .int .i64 y1, .string y2, .int .u64 y3] 33))) hX)
      gi_wp2_with fail
      refine hR.mono ?_
      rintro e W3 (⟨rfl, hJ3, hk3⟩ | ⟨rfl, hJx3⟩)
      · have HT3 := Lib.hid (And.intro hJ3 (HT2.out.keep hk3 hX))
        clear hJ3 hk3
        gi_wp2_with fail
        go_roundw
        case rel => exact ⟨k + 1, by omega, by go_num, Lib.hid ⟨by rw [← range_snoc]; exact HT3.out.1, HT3.out.2⟩⟩
        case measure => simp only [intOf]; omega
      · gi_wp2_with fail
        refine bodyPost_ret (results_none rfl _ _ _) rfl ?_
        exact ⟨⟨_, rfl⟩, .inr ⟨_, ⟨k + 1, by omega, range_snoc k⟩, hJx3⟩⟩
    · obtain rfl : k = m := by omega
      gi_wp2_with fail
      go_end0
      exact ⟨⟨_, rfl⟩, .inl ⟨_, rfl, HJ.out.1⟩⟩
/-- What All hands back goes over the text's tokens, whatever a round does with the cells in X. -/
theorem all_stops (s : ByteArray) (n : Nat) (hn : 2 ≤ n) (Bs : Nat) (X : Nat → Prop) (T : List Tok) (hT : T = (some14 s.data.toList).1) (w : World) (hX : ∀ k, w.heap.size ≤ k → ¬ X k)
    (hBs : w.cell? ⟨Bs, 0, none⟩ = some (.string s)) (hV : Vars w) (h8 : 8 ≤ w.heap.size) (hs : s.size ≤ maxLen) :
    SeqStopsK Fence.wide n Tryz.prog 25 #[.pointer (some ⟨Bs, 0, none⟩)] (encT T) (KeepX X) (fun ys => ys = List.range T.length) (fun pre => ∃ k, k ≤ T.length ∧ pre = List.range k) T.length w := fun l J Jx W hW hJ _ hY h0 =>
  all1_in s n hn l Bs X T hT J Jx hY W (fun k hk => hX k (Nat.le_trans hW.size hk)) (fun s A B hs hf => hJ s A B none hs hf.toGrown (fun r e => by cases e)) ((hW.cell (p := ⟨Bs, 0, none⟩) (cell_lt hBs)).trans hBs) (hV.kept_no (Fr.ofBelow hW)) (Nat.le_trans h8 hW.size) hs h0
set_option maxHeartbeats 1000000 in
/-- All. -/
theorem All_any (s : ByteArray) (w : World) :
    Calls Tryz.prog 11 #[.string s] w fun e w' => e = .returned (.func (.func 25) #[] #[.pointer (some ⟨w.heap.size, 0, none⟩)]) ∧ w' = w.alloc (.cells #[.string s] 9) := by
  have hmf : ∀ (fn : Fn) (first cap : Array Value) (w : World), (Instr.makeFunc fn first cap).run Tryz.prog w = .ok (.func fn first cap) w := fun _ _ _ _ => rfl
  go_enter Tryz.func11, Tryz.ntmps11
  go_wp2_with fail
  go_ret
  exact ⟨rfl, rfl⟩
end Go.Proofs.YtbdheihjnkfpiaaGreatDoor
