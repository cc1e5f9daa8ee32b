/-
  All and Parse of a text of 65536 events 'connect'; Parse, Text and Parts one past the bound.
-/
import Derived.RangeFuncNested
import Derived.RangeFuncBound
import Derived.RangeFuncCalls
import Derived.RangeFuncLeaves
import Derived.Shelf.Abstract
import Derived.Shelf.RegionOpen
import Derived.OwnWalkIn
import Derived.TacticsInMore
import Derived.LoopNIn
import Derived.LoopIn
import Derived.Sort.BigQuietIn
import Derived.Test.YtimglodailhkaaaGreatZp
namespace Go.Proofs.YtimglodailhkaaaGreat
open Go Go.RowKit Go.Shelf
attribute [local go_sem] Oper.semAt_some
/-- What a round keeps: cells outside X. -/
def KeepX (X : Nat → Prop) (A B : World) : Prop := A.heap.size ≤ B.heap.size ∧ ∀ k o, A.heap[k]? = some o → o.isCells = true → ¬ X k → B.heap[k]? = some o
theorem KeepX.refl (X : Nat → Prop) (A : World) : KeepX X A A := ⟨Nat.le_refl _, fun _ _ h _ _ => h⟩
theorem KeepX.trans {X : Nat → Prop} {A B C : World} (h : KeepX X A B) (k : KeepX X B C) : KeepX X A C := ⟨Nat.le_trans h.1 k.1, fun i o hi ho hx => k.2 i o (h.2 i o hi ho hx) ho hx⟩
theorem KeepX.put {X : Nat → Prop} (W : World) (l : Nat) (o o' : Obj) (h : W.heap[l]? = some o) (hc : o.isCells = false) : KeepX X W (W.putObj l o') :=
  ⟨by simp, fun k q hk hq _ => by
    have : k ≠ l := fun e => by subst e; rw [h] at hk; cases hk; rw [hc] at hq; cases hq
    rw [World.putObj_heap_other this]; exact hk⟩
theorem KeepX.ofFr {X : Nat → Prop} {A B : World} (h : Fr X A B) : KeepX X A B := ⟨h.size, fun _ _ hk _ hx => h.at hk hx⟩
theorem KeepX.cell {X : Nat → Prop} {A B : World} (h : KeepX X A B) {p : Addr} {v : Value} (hc : A.cell? p = some v) (hx : ¬ X p.block) : B.cell? p = some v := by
  obtain ⟨b, o, q⟩ := p
  unfold World.cell? at hc ⊢
  dsimp only at hc hx ⊢
  cases hb : A.heap[b]? with
  | none => rw [hb] at hc; simp at hc
  | some ob =>
    cases hk : ob.isCells with
    | false => rw [hb] at hc; cases ob <;> simp_all [Obj.isCells]
    | true => rw [h.2 b ob hb hk hx]; rw [hb] at hc; exact hc
theorem cell_lt {w : World} {b o : Nat} {v : Value} (h : w.cell? ⟨b, o, none⟩ = some v) : b < w.heap.size := by
  unfold World.cell? at h
  dsimp only at h
  cases hb : w.heap[b]? with
  | none => rw [hb] at h; simp at h
  | some ob => exact lt_of_block hb
/-- A 'connect' that is told: its number, its empty lists. -/
structure YE where
  k : Nat
  a1 : Option Addr
  c1 : Nat
  a2 : Option Addr
  c2 : Nat
  a3 : Option Addr
  c3 : Nat
def YE.cells (y : YE) : List Value := [.int .i64 1, .int .i64 0, .slice y.a1 0 y.c1, .slice y.a2 0 y.c2, .slice y.a3 0 y.c3]
def encE (y : YE) : Array Value := #[.int .i64 (y.k : Int), .agg #[.int .i64 1, .int .i64 0, .slice y.a1 0 y.c1, .slice y.a2 0 y.c2, .slice y.a3 0 y.c3]]
def Past (k : Nat) : Prop := 0 < k
set_option maxRecDepth 100000 in
set_option maxHeartbeats 4000000 in
/-- The closure that All hands back, at a text of 65536 'connect'. -/
theorem all1_conns (s : ByteArray) (hs : s = strB (conns 65536)) (n : Nat) (hn : 2 ≤ n) (l Bs : Nat) (m : Int) (J Jx : List YE → World → Prop)
    (hY : ∀ pre x W, J pre W → pre.length < 65536 → YieldAt Fence.wide (n - 1) Tryz.prog l (encE x) W fun e W' =>
      (e = .returned (.bool true) ∧ J (pre ++ [x]) W' ∧ KeepX Past W W') ∨ (e = .returned (.bool false) ∧ Jx (pre ++ [x]) W'))
    (W : World) (hJ : ∀ s A B, J s A → Fr No A B → J s B) (hBs : W.cell? ⟨Bs, 0, none⟩ = some (.string s)) (hm : W.cell? ⟨0, 0, none⟩ = some (.int .i64 m)) (h0 : J [] W) :
    CallsIn Fence.wide n Tryz.prog 34 #[.func (.yield l) #[] #[], .pointer (some ⟨Bs, 0, none⟩)] W fun e W' => (∃ v, e = .returned v) ∧
      ((∃ ys, ys.length = 65536 ∧ J ys W') ∨ (∃ pre, pre.length ≤ 65536 ∧ Jx pre W')) := by
  obtain ⟨C, hC⟩ : ∃ C : Nat → ByteArray, C = fun k => strB (conns k) := ⟨_, rfl⟩
  obtain ⟨CB, hCB⟩ : ∃ CB, CB = strB connectB := ⟨_, rfl⟩
  have hs' : s = C 65536 := by rw [hs, hC]
  subst hs'
  have hsz : (C 65536).size = 524288 := by rw [hC]; rw [strB_size, conns_len]
  have HCUT : Hid (∀ j wx, j < 65536 → wx.cell? ⟨0, 0, none⟩ = some (.int .i64 m) → Calls Tryz.prog 22 #[.string (C (j + 1)), .string ⟨#[10]⟩] wx fun e w' => e = .returned (.tuple #[.string CB, .string (C j), .bool true]) ∧ ∃ q, wx.drewN q = w') := Lib.hid (fun j wx hj hx => by
    refine (Tryz.strings_Cut (C (j + 1)) ⟨#[10]⟩ m wx (by rw [hC]; rw [strB_size, conns_len]; omega) hx).mono ?_
    rintro e w' ⟨h1, q, h2⟩
    refine ⟨?_, q, h2.symm⟩
    rw [h1]
    have e1 : (C (j + 1)).data.toList = conns (j + 1) := by rw [hC]; exact strB_list _
    rw [e1, show (⟨#[10]⟩ : ByteArray).data.toList = [10] from rfl, conns_cut, hC, hCB]
    rfl)
  have HREAD : Hid (∀ wx, wx.cell? ⟨0, 0, none⟩ = some (.int .i64 m) → Calls Tryz.prog 7 #[.string CB] wx fun e w' => ∃ a1 c1 a2 c2 a3 c3, e = .returned (.tuple #[.agg #[.int .i64 1, .int .i64 0, .slice a1 0 c1, .slice a2 0 c2, .slice a3 0 c3], .int .i64 0]) ∧ Fr No wx w') := Lib.hid (fun wx hx => by
    have hw : CB.data.toList = connectB := by rw [hCB]; exact strB_list _
    refine (sread_any (TT := False) (BB := False) wx ⟨fun h => h.elim, fun h => h.elim, fun h => h.elim⟩ m hx CB (by rw [hCB]; decide) ?_).mono ?_
    · rw [hw]
      intro h t ht x hx2
      have : words31 connectB = [connectB] := by decide
      rw [this] at ht
      cases ht
      cases hx2
    · rintro e w' ⟨v, h1, h2, h3⟩
      rw [hw, conn_read] at h1 h2
      obtain ⟨a1, c1, a2, c2, a3, c3, rfl, _⟩ := h2.form
      exact ⟨a1, c1, a2, c2, a3, c3, h1, h3⟩)
  clear hC hCB hs
  have HY := Lib.hid hY
  clear hY
  have h1n : 1 ≤ n := by omega
  refine callsIn_of_wp Tryz.func34 rfl trivial ?_ rfl
  simp only [Tryz.ntmps34, List.size_toArray, List.length_cons, List.length_nil, Nat.reduceAdd, Nat.reduceSub, Array.replicate_succ, Array.replicate_zero, List.push_toArray, List.append_toArray, List.nil_append, List.cons_append]
  gi_wp2_with fail
  gi_loopw [3, 14] (fun s3 s14 wr => ∃ k j : Nat, k + j = 65536 ∧ s14 = .int .i64 k ∧ s3 = .string (C j) ∧ Hid (∃ ys : List YE, ys.length = k ∧ J ys wr) ∧ wr.cell? ⟨0, 0, none⟩ = some (.int .i64 m)) (fun _ i _ => 65536 - (intOf i).toNat)
  case atStart => exact ⟨0, 65536, rfl, rfl, rfl, Lib.hid ⟨[], rfl, h0⟩, hm⟩
  case round =>
    obtain ⟨k, j, hkj, rfl, rfl, HJ, hmr⟩ := hrel
    by_cases hlt : k < 65536
    · obtain ⟨j, rfl⟩ : ∃ j', j = j' + 1 := ⟨j - 1, by omega⟩
      have hlti : (k : Int) < 65536 := by omega
      gi_wp2_with (first
        | (refine ⟨trivial, ?_⟩; gi_at_call 22; refine (callsIn_wide.2 (HCUT.out j _ (by omega) hmr)).mono ?_; rintro e w1 ⟨rfl, q, rfl⟩)
        | (refine ⟨trivial, ?_⟩; gi_at_call 7; refine (callsIn_wide.2 (HREAD.out (wr.drewN q) hmr)).mono ?_; rintro e w2 ⟨a1, c1, a2, c2, a3, c3, rfl, hf2⟩; obtain ⟨W2, hW2⟩ : ∃ W2, W2 = w2.alloc (.cells #[.int .i64 1, .int .i64 0, .slice a1 0 c1, .slice a2 0 c2, .slice a3 0 c3] 28) := ⟨_, rfl⟩; have HF2 := Lib.hid (And.intro hf2 hW2); clear hf2 hW2))
      have hfw : Fr No wr W2 := by rw [HF2.out.2]; exact (((Fr.refl No wr).drewN q).trans_same HF2.out.1).alloc _
      obtain ⟨ys, hyl, hys⟩ := HJ.out
      obtain ⟨fn, tmps, assign, body, hy, hR⟩ := HY.out ys ⟨k, a1, c1, a2, c2, a3, c3⟩ W2 (hJ _ _ _ hys hfw) (by rw [hyl]; exact hlt)
      unfold encE at hy
      rw [HF2.out.2] at hy hR
      gi_wp2_with fail
      refine hR.mono ?_
      rintro e W3 (⟨rfl, hJ3, hk3⟩ | ⟨rfl, hJx3⟩)
      · have hm2 : W2.cell? ⟨0, 0, none⟩ = some (.int .i64 m) := (hfw.cell (p := ⟨0, 0, none⟩) (cell_lt hmr) (fun h => h)).trans hmr
        rw [HF2.out.2] at hm2
        have hm3 := hk3.cell hm2 (fun h => Nat.lt_irrefl 0 h)
        have HT3 := Lib.hid hJ3
        clear hJ3 hk3
        gi_wp2_with fail
        go_roundw
        case rel => exact ⟨k + 1, j, by omega, by go_num, rfl, Lib.hid ⟨_, by rw [List.length_append, hyl]; rfl, HT3.out⟩, hm3⟩
        case measure => simp only [intOf]; omega
      · gi_wp2_with fail
        refine bodyPost_ret (results_none rfl _ _ _) rfl ?_
        exact ⟨⟨_, rfl⟩, .inr ⟨_, by rw [List.length_append, hyl]; simp; omega, hJx3⟩⟩
    · obtain rfl : k = 65536 := by omega
      gi_wp2_with fail
      go_end0
      obtain ⟨ys, hyl, hys⟩ := HJ.out
      exact ⟨⟨_, rfl⟩, .inl ⟨ys, hyl, hys⟩⟩
theorem all_conns (s : ByteArray) (hs : s = strB (conns 65536)) (n : Nat) (hn : 2 ≤ n) (Bs : Nat) (m : Int) (w : World) (hBs : w.cell? ⟨Bs, 0, none⟩ = some (.string s)) (hm : w.cell? ⟨0, 0, none⟩ = some (.int .i64 m)) :
    SeqStopsK Fence.wide n Tryz.prog 34 #[.pointer (some ⟨Bs, 0, none⟩)] encE (KeepX Past) (fun ys => ys.length = 65536) (fun pre => pre.length ≤ 65536) 65536 w := fun l J Jx W hW hJ _ hY h0 =>
  all1_conns s hs n hn l Bs m J Jx hY W (fun s A B hs hf => hJ s A B none hs ⟨hf.os, hf.tape, hf.output, hf.size, fun k hk _ => hf.block k hk id⟩ (fun r e => by cases e)) ((hW.cell (p := ⟨Bs, 0, none⟩) (cell_lt hBs)).trans hBs) ((hW.cell (p := ⟨0, 0, none⟩) (cell_lt hm)).trans hm) h0
/-- The list so far: its variable stands in block B. -/
structure PI (w : World) (n : Nat) (W : World) : Prop where
  row : ∃ v xs, W.heap[w.heap.size]? = some (.cells #[v] 22 (0, 0)) ∧ W.ownsRow (w.heap.size + 2) 28 5 v n xs
  fr : Fr No w W
  past : w.heap.size + 2 ≤ W.heap.size
theorem PI.grow {w : World} {n : Nat} {W W' : World} {row : Option Nat} (h : PI w n W) (hg : W.grownBy W' row) (hr : ∀ k, row = some k → w.heap.size + 2 ≤ k ∧ ∃ o : Obj, W.heap[k]? = some o ∧ o.isCells = false) : PI w n W' := by
  obtain ⟨v, xs, hb, ho⟩ := h.row
  have hf : Fr (fun k => row = some k) W W' := ⟨hg.os, hg.tape, hg.output, hg.size, fun k hk hx => hg.block k hk (fun e => hx e.symm)⟩
  refine ⟨⟨v, xs, hf.at hb (fun e => by obtain ⟨_, o, h1, h2⟩ := hr _ e; rw [hb] at h1; cases h1; cases h2), hf.owns ho (fun k hk e => by
    obtain ⟨_, o, h1, h2⟩ := hr _ e
    rcases ho.2 with ⟨hn, _⟩ | ⟨g, cap, cur, hv, _, hg2, _⟩
    · rw [hn] at hk; cases hk
    · rw [hv] at hk; cases hk; rw [hg2] at h1; cases h1; cases h2)⟩, h.fr.grown hg (fun k e hk => by have := (hr k e).1; omega), Nat.le_trans h.past hg.size⟩
theorem PI.own (w : World) (B : Nat) (hB : w.heap.size + 2 ≤ B) : OwnFrom B (fun (pre : List YE) W => PI w pre.length W) :=
  fun _ _ _ _ hs hg hr => hs.grow hg (fun k e => ⟨Nat.le_trans hB (hr k e).1, (hr k e).2⟩)
theorem news_row (w : World) (l : List Value) (t : TypeId) : ∀ j u, l[j]? = some u → (w.alloc (.cells l.toArray t)).cell? ((⟨w.heap.size, 0, none⟩ : Addr).add j) = some u := fun j u hu => by
  have hadd : (⟨w.heap.size, 0, none⟩ : Addr).add j = ⟨w.heap.size, j, none⟩ := by
    unfold Addr.add
    split
    · rename_i h0; subst h0; rfl
    · simp
  rw [hadd, cell_of_row _ _ j _ t (0, 0) (heap_alloc_new w _)]
  simpa using hu
theorem infoEvZ : (Tryz.prog.info? 28).map (fun i => (i.zero, i.size, i.bytes)) = some (some (.agg #[.int .i64 0, .int .i64 0, .slice none 0 0, .slice none 0 0, .slice none 0 0]), 5, 88) := by kernel_rfl
theorem own_sliceZ {w : World} {base size n : Nat} {T : TypeId} {v : Value} {xs : List Value} (h : w.ownsRow base T size v n xs) : ∃ ad c, v = .slice ad n c := by
  rcases h.2 with ⟨rfl, h0⟩ | ⟨g', cap', cur', rfl, _⟩
  · exact ⟨none, 0, by rw [h0]⟩
  · exact ⟨_, _, rfl⟩
theorem PI.alloc {w : World} {n : Nat} {W : World} (h : PI w n W) (o : Obj) : PI w n (W.alloc o) :=
  h.grow (World.grownBy_alloc W o none) (fun k e => by cases e)
/-- Where the list's own block lies. -/
theorem own_past {W : World} {base size n : Nat} {T : TypeId} {v : Value} {xs : List Value} (h : W.ownsRow base T size v n xs) (k : Nat) (hk : v.ownBlock = some k) : base ≤ k ∧ ∃ o : Obj, W.heap[k]? = some o ∧ o.isCells = true := by
  rcases h.2 with ⟨hn, _⟩ | ⟨g, cap, cur, hv, hb, hg, _⟩
  · rw [hn] at hk; cases hk
  · rw [hv] at hk; cases hk; exact ⟨hb, _, hg, rfl⟩
set_option maxRecDepth 100000 in
set_option maxHeartbeats 8000000 in
/-- Parse of 65536 'connect'. -/
theorem parse_conns (s : ByteArray) (hs : s = strB (conns 65536)) (m : Int) (w : World) (hm : w.cell? ⟨0, 0, none⟩ = some (.int .i64 m)) :
    Calls Tryz.prog 5 #[.string s] w fun e w' => ∃ a c, e = .returned (.tuple #[.slice a 65536 c, .int .i64 65536, .int .i64 0]) ∧ Fr No w w' := by
  have hsz : s.size = 524288 := by rw [hs, strB_size, conns_len]
  have hl : s.data.toList = conns 65536 := by rw [hs]; exact strB_list _
  have HCN : Hid (∀ wx, Calls Tryz.prog 18 #[.string s, .string ⟨#[10]⟩] wx fun e w' => e = .returned (.int .i64 65536) ∧ w' = wx) := Lib.hid (fun wx => by
    refine (Tryz.strings_Count_one s 10 wx).mono ?_
    rintro e w' ⟨h1, h2⟩
    refine ⟨?_, h2⟩
    rw [h1, hl]
    unfold Lib.countByte
    rw [conns_count]
    rfl)
  have HSF : Hid (∀ wx, Calls Tryz.prog 20 #[.string s, .string ⟨#[10]⟩] wx fun e w' => e = .returned (.bool true) ∧ w' = wx) := Lib.hid (fun wx => by
    refine (Tryz.strings_HasSuffix s ⟨#[10]⟩ wx (by omega)).mono ?_
    rintro e w' ⟨h1, h2⟩
    refine ⟨?_, h2⟩
    rw [h1, hl, show (⟨#[10]⟩ : ByteArray).data.toList = [10] from rfl, conns_suffix 65535])
  have HM := Lib.hid (And.intro hm hs)
  clear hm hs hl
  refine callsIn_wide.1 (callsIn_of_wp_marks (n := 9) Tryz.func5 rfl trivial (wpIn_wide.2 ?_) rfl)
  simp only [Tryz.ntmps5, List.size_toArray, List.length_cons, List.length_nil, Nat.reduceAdd, Nat.reduceSub, Array.replicate_succ, Array.replicate_zero, List.push_toArray, List.append_toArray, List.nil_append, List.cons_append]
  go_wp2_with (first
    | (go_at_call 18; refine (HCN.out _).mono ?_; rintro e w1 ⟨rfl, rfl⟩)
    | (go_at_call 19; refine (all_any s _).mono ?_; rintro e w1 ⟨rfl, rfl⟩))
  obtain ⟨W0, hW0⟩ : ∃ W0, W0 = (w1.alloc (.cells #[.slice none 0 0] 22)).alloc (.cells #[.string s] 9) := ⟨_, rfl⟩
  rw [← hW0]
  have hsz0 : W0.heap.size = w1.heap.size + 2 := by rw [hW0]; simp
  have hP0 : PI w1 0 W0 := by
    rw [hW0]
    exact ⟨⟨_, [], at_alloc (heap_alloc_new w1 _) _, World.ownsRow_nil _ _ _ _⟩, ((Fr.refl _ _).alloc _).alloc _, by simp⟩
  have hBs : W0.cell? ⟨w1.heap.size + 1, 0, none⟩ = some (.string s) := by
    rw [hW0]
    have := heap_alloc_new (w1.alloc (.cells #[.slice none 0 0] 22)) (.cells #[.string s] 9)
    rw [World.size_alloc] at this
    exact cell_of_one this
  have HST := all_conns s HM.out.2 8 (by omega) (w1.heap.size + 1) m W0 hBs ((hP0.fr.cell (p := ⟨0, 0, none⟩) (cell_lt HM.out.1) (fun h => h)).trans HM.out.1)
  clear hW0 hBs
  refine wpIn_wide.1 (wpIn_rangeFunc_ownH (F := Fence.wide) (n := 9) rfl (by omega) (gf := 34) (lb := #[.pointer (some ⟨w1.heap.size + 1, 0, none⟩)]) rfl trivial (enters_of Tryz.func34 (by kernel_rfl) rfl) HST (fun h k => h.trans k) (fun W l o o' _ h hc _ => KeepX.put W l o o' h hc) (Below.refl _ _) (fun _ => rfl)
    (fun pre W => PI w1 pre.length W)
    (fun _ _ _ => False)
    (PI.own w1 _ (by omega)) (fun _ _ _ _ _ h _ _ => h) hP0
    (fun x a' W => ∃ g, w1.heap.size + 2 ≤ g ∧ W.heap[g]? = some (.cells x.cells.toArray 28 (0, 0)) ∧ a' = { tmps := #[.string s, undef, .slice none 0 0, .int .i64 0, .int .i64 0, .int .i64 65536, .pointer (some ⟨w1.heap.size, 0, none⟩), undef, .pointer (some ⟨g, 0, none⟩), .string s, .int .i64 65536, .string s, .int .i64 524288, .bool false, .bool false, .int .i64 65536, .bool false, .bool false, .string s, .func (.func 34) #[] #[.pointer (some ⟨w1.heap.size + 1, 0, none⟩)], .int .i64 (x.k : Int), .agg #[.int .i64 1, .int .i64 0, .slice x.a1 0 x.c1, .slice x.a2 0 x.c2, .slice x.a3 0 x.c3], undef, undef, undef, undef, undef, undef, undef, undef, undef, undef, undef, undef, undef, undef, undef, undef, undef, undef, undef, undef, undef], defers := [] })
    (fun x a' _ X Y row hs hg hr => by obtain ⟨g, h1, h2, h3⟩ := hs; exact ⟨g, h1, (hg.block g (lt_of_block h2) (fun e => by obtain ⟨_, o, ho, hc⟩ := hr g e.symm; rw [h2] at ho; cases ho; cases hc)).trans h2, h3⟩)
    ?assign ?body ?done ?stop)
  case assign =>
    rintro l pre x W K hP hK
    obtain ⟨xk, a1, c1, a2, c2, a3, c3⟩ := x
    unfold encE
    gi_wp2
    refine hK _ _ ⟨by simp, fun k o _ hk _ => at_alloc hk _⟩ ⟨by simp, fun k o hk _ _ => at_alloc hk _⟩ ?_ ⟨W.heap.size, ?_, heap_alloc_new W _, rfl⟩
    · exact hP.alloc _
    · exact hP.past
  case body =>
    rintro l pre x a' W hlW ⟨rc, hrc⟩ hP ⟨g, hg, hgc, rfl⟩ hlt
    obtain ⟨i0, hi0, hz0, hz1, hz2⟩ := info_parts infoEvZ
    obtain ⟨v, xs, hb, ho⟩ := hP.row
    obtain ⟨ad, cp, rfl⟩ := own_sliceZ ho
    obtain ⟨xk, a1, c1, a2, c2, a3, c3⟩ := x
    have k0 : W.cell? ⟨g, 0, none⟩ = some (.int .i64 1) := by rw [cell_of_row W g 0 _ _ (0, 0) hgc]; rfl
    have k1 : W.cell? ⟨g, 1, none⟩ = some (.int .i64 0) := by rw [cell_of_row W g 1 _ _ (0, 0) hgc]; rfl
    have k2 : W.cell? ⟨g, 2, none⟩ = some (.slice a1 0 c1) := by rw [cell_of_row W g 2 _ _ (0, 0) hgc]; rfl
    have k3 : W.cell? ⟨g, 3, none⟩ = some (.slice a2 0 c2) := by rw [cell_of_row W g 3 _ _ (0, 0) hgc]; rfl
    have k4 : W.cell? ⟨g, 4, none⟩ = some (.slice a3 0 c3) := by rw [cell_of_row W g 4 _ _ (0, 0) hgc]; rfl
    have e0 := cell_of_one hb
    have HP := Lib.hid (And.intro hP (And.intro hb ho))
    have hlb := lt_of_block hb
    have hlg := lt_of_block hgc
    clear hP hb ho hgc
    obtain ⟨n0, hn0⟩ : ∃ n0, n0 = pre.length := ⟨_, rfl⟩
    rw [← hn0] at hlt e0 HP
    have HN := Lib.hid hn0
    clear hn0
    gi_wp2_with (gi_at_builtin; refine wpListIn_append_own (P := Tryz.prog) _ rfl _ _ 22 rfl (w1.heap.size + 2) 28 i0 (.agg #[.int .i64 0, .int .i64 0, .slice none 0 0, .slice none 0 0, .slice none 0 0]) 5 88 Tryz.underlying22 hi0 hz0 hz1 hz2 rfl (by decide) (.slice ad n0 cp) n0 xs rfl (((Fr.refl No W).alloc _).owns HP.out.2.2 (fun _ _ h => h)) ⟨W.heap.size, 0, none⟩ 1 1 [.int .i64 1, .int .i64 0, .slice a1 0 c1, .slice a2 0 c2, .slice a3 0 c3] rfl rfl (news_row W _ _) (by intro u hu; simp at hu; rcases hu with rfl | rfl | rfl | rfl | rfl <;> rfl) (by unfold maxLen; omega) (by omega) (by simp; omega) ?_; intro v3 w3 q1 q2 q3; obtain ⟨ad3, cp3, rfl⟩ := own_sliceZ q1; have hb3 : w3.heap[w1.heap.size]? = some (.cells #[.slice ad n0 cp] 22 (0, 0)) := (q2.block _ (by rw [World.size_alloc]; omega) (fun e => by have := (own_past (W := W) HP.out.2.2 _ e.symm).1; omega)).trans (at_alloc HP.out.2.1 _); have e3 := cell_of_one hb3; have f3 := free_of_one hb3; have l3 := lt_of_block hb3; have H3 := Lib.hid (And.intro hb3 (And.intro q1 q2)); clear hb3 q1 q2 q3)
    have hfr3 : Fr (fun k => (Value.slice ad n0 cp).ownBlock = some k) W w3 := ((Fr.refl _ W).alloc _).grown H3.out.2.2 (fun k e _ => e)
    have hnb : ∀ k, (Value.slice ad n0 cp).ownBlock = some k → w1.heap.size + 2 ≤ k := fun k e => (own_past (W := W) HP.out.2.2 k e).1
    refine ⟨?_, ?_, ?_⟩
    · refine KeepsOthers.from ?_ _
      refine ((KeepsOthers.alloc W _).trans (KeepsOthers.of_grownBy H3.out.2.2 ?_)).trans (KeepsOthers.setCell _ _ _)
      intro j o hj ho
      obtain ⟨_, o2, h2, h3⟩ := own_past (W := W) HP.out.2.2 j hj
      rw [at_alloc h2] at ho
      cases ho
      exact h3
    · refine ⟨by have := hfr3.size; simpa using this, fun k o hk _ hx => ?_⟩
      obtain rfl : k = 0 := by unfold Past at hx; omega
      rw [heap_setCell_other _ _ _ _ (by have := cell_lt HM.out.1; show (0 : Nat) ≠ w1.heap.size; omega)]
      exact hfr3.at hk (fun e => by have := hnb 0 e; omega)
    · show PI w1 (pre ++ [_]).length _
      rw [List.length_append, ← HN.out]
      exact ⟨⟨_, _, one_setCell H3.out.1, (((Fr.refl No w3)).owns H3.out.2.1 (fun _ _ h => h) |> fun h => (((Fr.refl (One w1.heap.size) w3).setCell ⟨w1.heap.size, 0, none⟩ (.slice ad3 (n0 + 1) cp3) (fun _ => rfl)).owns h (fun k hk e => by
        have h1 := (own_past (W := w3) h k hk).1
        have h2 : k = w1.heap.size := e
        omega)))⟩, (HP.out.1.fr.trans hfr3 (fun i hi e => by have := hnb i e; omega)).setCell _ _ (fun h => absurd h (by simp)), by have := HP.out.1.past; have := hfr3.size; simp; omega⟩
  case done =>
    rintro D xs W hD hxl hP hDf
    have hP : PI w1 65536 W := by rw [← hxl]; exact hP
    obtain ⟨v, vs, hb, ho⟩ := hP.row
    obtain ⟨ad, cp, rfl⟩ := own_sliceZ ho
    have e0 := cell_of_one hb
    have HP := Lib.hid (And.intro hP hDf)
    clear hP hb ho hDf hxl
    have hse : s.toList.isEmpty = false := by
      have e1 : s.toList.length = s.size := by rw [Lib.toList_data]; exact Array.length_toList
      cases h : s.toList with
      | nil => rw [h, hsz] at e1; exact absurd e1 (by decide)
      | cons x y => rfl
    go_wp2_with (go_at_call 20; refine (HSF.out _).mono ?_; rintro e w2 ⟨rfl, rfl⟩)
    refine ⟨by simp, .inl ⟨_, _, rfl, run_takeDeferred HP.out.2, ?_⟩⟩
    exact ⟨_, by simp [results, Tryz.results5, go_sem], ad, cp, rfl, HP.out.1.fr.grown (grownBy_putObj' _ D (.deferred none)) (fun k e h => by cases e; omega)⟩
  case stop => exact fun D c pre W _ _ h _ => h.elim
/-- Parse of 65537 'connect'. -/
theorem parse_over (s : ByteArray) (hs : s = strB (conns 65537)) (w : World) :
    Calls Tryz.prog 5 #[.string s] w fun e w' => e = .returned (.tuple #[.slice none 0 0, .int .i64 0, .int .i64 3]) ∧ w = w' := by
  have hsz : s.size = 524296 := by rw [hs, strB_size, conns_len]
  have hl : s.data.toList = conns 65537 := by rw [hs]; exact strB_list _
  have HCN : Hid (∀ wx, Calls Tryz.prog 18 #[.string s, .string ⟨#[10]⟩] wx fun e w' => e = .returned (.int .i64 65537) ∧ w' = wx) := Lib.hid (fun wx => by
    refine (Tryz.strings_Count_one s 10 wx).mono ?_
    rintro e w' ⟨h1, h2⟩
    refine ⟨?_, h2⟩
    rw [h1, hl]
    unfold Lib.countByte
    rw [conns_count]
    rfl)
  clear hs hl
  go_enter Tryz.func5, Tryz.ntmps5
  go_wp2_with (go_at_call 18; refine (HCN.out _).mono ?_; rintro e w1 ⟨rfl, rfl⟩)
  go_ret3
  exact ⟨rfl, rfl⟩
/-- Text of too many events. -/
theorem text_over (a : Option Addr) (n c : Nat) (w : World) (h : 65536 < n) :
    Calls Tryz.prog 4 #[.slice a n c] w fun e w' => e = .returned (.tuple #[.string (strB []), .int .i64 0, .int .i64 3]) ∧ w = w' := by
  have h2 : (65536 : Int) < (n : Int) := by omega
  go_enter Tryz.func4, Tryz.ntmps4
  go_wp2_with fail
  go_ret3
  exact ⟨rfl, rfl⟩
/-- Parts of too many events. -/
theorem parts_over (a : Option Addr) (n c : Nat) (w : World) (h : 65536 < n) :
    Calls Tryz.prog 8 #[.slice a n c] w fun e w' => e = .returned (.tuple #[.slice none 0 0, .int .i64 3]) ∧ w = w' := by
  have h2 : (65536 : Int) < (n : Int) := by omega
  go_enter Tryz.func8, Tryz.ntmps8
  go_wp2_with fail
  go_ret2
  exact ⟨rfl, rfl⟩
end Go.Proofs.YtimglodailhkaaaGreat
