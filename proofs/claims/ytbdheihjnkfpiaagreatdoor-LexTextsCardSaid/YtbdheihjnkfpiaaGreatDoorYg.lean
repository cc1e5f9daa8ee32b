/-
  goes walked: a going over of All's tokens is true (with a region that only reads, within a round: one walk serves every order).
-/
import Derived.Sort.BigQuietIn
import Derived.OwnWalkIn
import Derived.Test.YtbdheihjnkfpiaaGreatDoorProg
import Derived.Test.YtbdheihjnkfpiaaGreatDoorYa
import Derived.Deep.LoopGhost
import Derived.Deep.DeepMust
namespace Go.Proofs.YtbdheihjnkfpiaaGreatDoor
open Go Go.RowKit
theorem round_op {F : Fence} {n : Nat} {P : Program} {C : World → Prop} {o : Oper} {a : Act} {K : Act → Prop} {K' : Act → World → Prop} {Q' : Exit → Act → World → Prop} {w : World} (hd : ∀ c, o.op ≠ .defer c) (hw : C w) (h : ∀ a w', C w' → K a → K' a w')
    (ha : o.askedIn F P a C) (hh : o.quietIn F n P a C K) : o.wpIn F n P a w K' Q' := by
  obtain ⟨v, h1, h2⟩ := hh
  have h3 := h1 w hw
  unfold Oper.quietAtIn at h3
  unfold Oper.wpIn
  refine ⟨ha w hw, ?_⟩
  rw [Oper.semAt_plain F _ _ hd]
  revert h3
  cases (execOp a.eval o).run P w with
  | halt x w' => exact fun h3 => h3.elim
  | ok x w' =>
    cases x with
    | value u => exact fun ⟨e1, e2⟩ => by subst e1; subst e2; exact h _ _ hw h2
    | skip => exact fun ⟨e1, e2⟩ => by subst e1; simp only [Oper.uponIn]; rw [← e2]; exact h _ _ hw h2
    | enter f args => exact fun ⟨e1, hd, hc⟩ => by subst e1; exact ⟨hd, hc.mono fun e w'' ⟨he, hw''⟩ => by subst he; exact h _ _ hw'' h2⟩
    | _ => exact fun h3 => h3.elim
theorem round_opAt {F : Fence} {n : Nat} {P : Program} {ops : Array Oper} {C : World → Prop} (hnd : ∀ (i : Nat) (o : Oper), ops[i]? = some o → ∀ c, o.op ≠ .defer c) {i : Nat} {a : Act} {K : Act → Prop} {K' : Act → World → Prop} {Q' : Exit → Act → World → Prop} {w : World} (hC : C w) (h : ∀ a w', C w' → K a → K' a w')
    (hh : qOpIn F n P ops C i K a) : wpOpIn F n P ops Q' i K' a w := by
  unfold qOpIn at hh
  unfold wpOpIn
  split
  · rename_i ho; simp only [ho] at hh; exact h _ _ hC hh
  · rename_i o ho
    simp only [ho] at hh
    obtain ⟨ha, hh⟩ := hh
    split
    · rename_i hw; simp only [hw, if_true] at hh; exact round_op (hnd i o ho) hC h ha hh
    · rename_i hw; simp only [hw] at hh; exact ⟨ha w hC, h _ _ hC hh⟩
theorem round_all {F : Fence} {n : Nat} {P : Program} {ops : Array Oper} {md : Region.Mode} {C : World → Prop} (hnd : ∀ (i : Nat) (o : Oper), ops[i]? = some o → ∀ c, o.op ≠ .defer c) {Q : Act → Prop} {Q' : Exit → Act → World → Prop} (hQ : ∀ a w, C w → Q a → Q' .normal a w) : ∀ (fuel : Nat) (listed : Array Bool) (a : Act) (w : World), C w →
    wpAnyQIn F n P md ops C Q fuel listed a → wpAnyIn F n P md ops Q' fuel listed a w
  | 0, _, _, _, hw, h => ⟨h.1, hQ _ _ hw h.2⟩
  | fuel + 1, _, _, _, hw, h => ⟨fun h0 => hQ _ _ hw (h.1 h0), fun i hi => round_opAt hnd hw (fun a' w' hw' => round_all hnd hQ fuel _ a' w' hw') (h.2 i hi)⟩
/-- A region that only reads, within a round of a range over a function: one walk serves every order. -/
theorem region_quiet_round {F : Fence} {n : Nat} {P : Program} {id : Nat} {Q : Exit → Act → World → Prop} {a : Act} {w : World} {l : List Oper} (hnd : (l.all fun o => match o.op with | .defer _ => false | _ => true) = true) (hm : P.follows .mixedOrders = true) (hB : Region.lexB .any l.toArray = true)
    (h : wpQuietIn F n P l.toArray (fun w' => ∃ n, w' = w.drewN n) (fun a' => ∀ w', (∃ n, w' = w.drewN n) → Q .normal a' w') l a) : (Code.region id l.toArray true).wpIn F n P Q a w := by
  have hn : ∀ (i : Nat) (o : Oper), l.toArray[i]? = some o → ∀ c, o.op ≠ .defer c := by
    intro i o ho c hc
    have h1 : o ∈ l := by
      rw [List.getElem?_toArray] at ho
      exact List.mem_of_getElem? ho
    have h2 := List.all_eq_true.1 hnd o h1
    rw [hc] at h2
    cases h2
  simp only [Region.lexB, Bool.and_eq_true] at hB
  refine wpIn_region_any hm (round_all hn (Q := fun a' => ∀ w', (∃ n, w' = w.drewN n) → Q .normal a' w') (C := fun w' => ∃ n, w' = w.drewN n) (fun _ w' hw' h => h w' hw') _ _ _ _ ⟨1, rfl⟩ ?_)
  have := wpAnyQIn_lex (F := F) (n := n) (C := fun w' => ∃ n, w' = w.drewN n) (md := .any) hB.1 l.toArray.toList 0 (Array.replicate l.toArray.size false) a (by simp) (by simpa using hB.2) (by simpa using h)
  simpa using this
open Go Go.RowKit Go.Shelf
attribute [local go_sem] Oper.semAt_some
theorem func_nil12 (p : Value) (w : World) : (binOp .eql 35 (.func (.func 25) #[] #[p]) .nilFunc).run Tryz.prog w = .ok (.bool false) w := by kernel_rfl
/-- The variables of goes: the list's, leave's, the result's, n's; nothing of old has turned. -/
structure GI (w : World) (a : Option Addr) (m cp : Nat) (leave : Int) (r : Bool) (n : Nat) (W : World) : Prop where
  c0 : W.heap[w.heap.size]? = some (.cells #[.slice a m cp] 23 (0, 0))
  c1 : W.heap[w.heap.size + 1]? = some (.cells #[.int .i64 leave] 3 (0, 0))
  c2 : W.heap[w.heap.size + 1 + 1]? = some (.cells #[.bool r] 4 (0, 0))
  c3 : W.heap[w.heap.size + 1 + 1 + 1]? = some (.cells #[.int .i64 n] 3 (0, 0))
  fr : Fr No w W
theorem GI.grow {w : World} {a : Option Addr} {m cp : Nat} {leave : Int} {r : Bool} {n : Nat} {W W' : World} {row : Option Nat} (h : GI w a m cp leave r n W) (hg : W.grownBy W' row) (hr : ∀ k, row = some k → w.heap.size + 4 ≤ k) : GI w a m cp leave r n W' := by
  have hb : ∀ k o, k < w.heap.size + 4 → W.heap[k]? = some o → W'.heap[k]? = some o := fun k o hk ho => (hg.block k (lt_of_block ho) (fun e => by have := hr k e.symm; omega)).trans ho
  exact ⟨hb _ _ (by omega) h.c0, hb _ _ (by omega) h.c1, hb _ _ (by omega) h.c2, hb _ _ (by omega) h.c3, h.fr.grown hg (fun k e hk => by have := hr k e; omega)⟩
theorem GI.own (w : World) (a : Option Addr) (m cp : Nat) (leave : Int) (B : Nat) (hB : w.heap.size + 4 ≤ B) (P : List Nat → Bool → Prop) : OwnFrom B (fun pre W => ∃ r, P pre r ∧ ∃ n, GI w a m cp leave r n W) :=
  fun _ _ _ _ hs hg hr => by
    obtain ⟨r, hp, n, h⟩ := hs
    exact ⟨r, hp, n, h.grow hg (fun k e => Nat.le_trans hB (hr k e).1)⟩
theorem GI.own0 (w : World) (a : Option Addr) (m cp : Nat) (leave : Int) (B : Nat) (hB : w.heap.size + 4 ≤ B) : OwnFrom B (fun (pre : List Nat) W => pre = List.range pre.length ∧ GI w a m cp leave false pre.length W) :=
  fun _ _ _ _ hs hg hr => ⟨hs.1, hs.2.grow hg (fun k e => Nat.le_trans hB (hr k e).1)⟩
theorem GI.alloc {w : World} {a : Option Addr} {m cp : Nat} {leave : Int} {r : Bool} {n : Nat} {W : World} (h : GI w a m cp leave r n W) (o : Obj) : GI w a m cp leave r n (W.alloc o) :=
  ⟨at_alloc h.c0 _, at_alloc h.c1 _, at_alloc h.c2 _, at_alloc h.c3 _, h.fr.alloc _⟩
theorem GI.drew {w : World} {a : Option Addr} {m cp : Nat} {leave : Int} {r : Bool} {n : Nat} {W : World} (h : GI w a m cp leave r n W) : GI w a m cp leave r n W.drew := ⟨h.c0, h.c1, h.c2, h.c3, h.fr.drew⟩
theorem GI.setN {w : World} {a : Option Addr} {m cp : Nat} {leave : Int} {r : Bool} {n : Nat} {W : World} (h : GI w a m cp leave r n W) (n' : Nat) (x : Int) (hx : x = n') : GI w a m cp leave r n' (W.setCell ⟨w.heap.size + 1 + 1 + 1, 0, none⟩ (.int .i64 x)) :=
  ⟨(heap_setCell_other _ _ _ _ (by simp; omega)).trans h.c0, (heap_setCell_other _ _ _ _ (by simp)).trans h.c1, (heap_setCell_other _ _ _ _ (by simp)).trans h.c2, hx ▸ one_setCell h.c3, h.fr.setCell _ _ (fun h => by simp at h; omega)⟩
theorem GI.setR {w : World} {a : Option Addr} {m cp : Nat} {leave : Int} {r : Bool} {n : Nat} {W : World} (h : GI w a m cp leave r n W) (r' : Bool) : GI w a m cp leave r' n (W.setCell ⟨w.heap.size + 1 + 1, 0, none⟩ (.bool r')) :=
  ⟨(heap_setCell_other _ _ _ _ (by simp; omega)).trans h.c0, (heap_setCell_other _ _ _ _ (by simp)).trans h.c1, one_setCell h.c2, (heap_setCell_other _ _ _ _ (by simp)).trans h.c3, h.fr.setCell _ _ (fun h => by simp at h; omega)⟩
theorem keepX_set {X : Nat → Prop} (W : World) (p : Addr) (u : Value) (hp : X p.block) : KeepX X W (W.setCell p u) :=
  ⟨by simp [World.setCell], fun k o hk _ hx => (heap_setCell_other W p k u (fun e => hx (e ▸ hp))).trans hk⟩
theorem GI.drewN {w : World} {a : Option Addr} {m cp : Nat} {leave : Int} {r : Bool} {n : Nat} {W : World} (h : GI w a m cp leave r n W) (q : Nat) : GI w a m cp leave r n (W.drewN q) := ⟨h.c0, h.c1, h.c2, h.c3, h.fr.drewN q⟩
theorem keeps_set (B : Nat) (W : World) (n : Nat) (p : Addr) (u : Value) : KeepsFrom B W ((W.drewN n).setCell p u) :=
  have h := (KeepsOthers.setCell (W.drewN n) p u).from B
  ⟨h.1, h.2⟩
theorem keeps_set2 (B : Nat) (W : World) (n : Nat) (p q : Addr) (u v : Value) : KeepsFrom B W (((W.drewN n).setCell p u).setCell q v) :=
  (keeps_set B W n p u).trans ((KeepsOthers.setCell _ q v).from B)
theorem keepX_setN {X : Nat → Prop} (W : World) (n : Nat) (p : Addr) (u : Value) (hp : X p.block) : KeepX X W ((W.drewN n).setCell p u) :=
  have h := keepX_set (X := X) (W.drewN n) p u hp
  ⟨h.1, h.2⟩
def tokOf (T : List Tok) (x : Nat) : Tok := T.getD x ⟨0, 0, [], 0⟩
theorem enc_of (T : List Tok) (x : Nat) : encT T x = #[.int .i64 (x : Int), tokV (tokOf T x)] := rfl
theorem range_last {pre : List Nat} {x : Nat} (h : pre ++ [x] = List.range (pre ++ [x]).length) : x = pre.length := by
  rw [List.length_append, List.length_singleton, List.range_succ] at h
  have := (List.append_inj' h rfl).2
  simpa using this
theorem range_next {pre : List Nat} (h : pre = List.range pre.length) : pre ++ [pre.length] = List.range (pre ++ [pre.length]).length := by
  rw [List.length_append, List.length_singleton, List.range_succ, ← h]
theorem results_goes (tmps : Array Value) (w : World) (b : Nat) (r : Bool) (h : tmps.getD 6 undef = .pointer (some ⟨b, 0, none⟩)) (hc : w.cell? ⟨b, 0, none⟩ = some (.bool r)) :
    (results Tryz.f12 tmps).run Tryz.prog w = .ok (.bool r) w := by
  have h' : tmps[6]?.getD undef = .pointer (some ⟨b, 0, none⟩) := by simpa using h
  simp [results, Tryz.results12, go_sem, h', hc]
theorem GI.post {w : World} {a : Option Addr} {m cp : Nat} {leave : Int} {n : Nat} {W : World} (h : GI w a m cp leave true n W) (D : Nat) (hD : w.heap.size ≤ D) (hDK : W.heap[D]? = some (.deferred (some []))) :
    (W.putObj D (.deferred none)).cell? ⟨w.heap.size + 1 + 1, 0, none⟩ = some (.bool true) ∧ Fr No w (W.putObj D (.deferred none)) :=
  ⟨cell_kept (cell_of_one h.c2) (grownBy_putObj' _ D (.deferred none)) (fun r e => by cases e; exact ⟨_, hDK, rfl⟩), h.fr.grown (grownBy_putObj' _ D (.deferred none)) (fun k e h => by cases e; omega)⟩
def GX (w : World) : Nat → Prop := fun k => k = w.heap.size + 1 + 1 ∨ k = w.heap.size + 1 + 1 + 1
set_option maxRecDepth 100000 in
set_option maxHeartbeats 8000000 in
theorem goes_any (s : ByteArray) (T : List Tok) (hT : T = (some14 s.data.toList).1) (Bs : Nat) (leave : Int) (a : Option Addr) (cp m : Nat) (w : World) (hm : T.length = m)
    (hBs : w.cell? ⟨Bs, 0, none⟩ = some (.string s)) (hV : Vars w) (h8 : 8 ≤ w.heap.size) (hs : s.size ≤ maxLen) (hl : Toks w a (T.map Tok.pt)) :
    Calls Tryz.prog 12 #[.func (.func 25) #[] #[.pointer (some ⟨Bs, 0, none⟩)], .slice a m cp, .int .i64 leave] w fun e w' => e = .returned (.bool true) ∧ Fr No w w' := by
  have hm2 : m ≤ 1048576 := by rw [← hm, hT]; exact some14_len _
  have HH := Lib.hid (And.intro hT (And.intro hBs (And.intro hV (And.intro hl hm))))
  clear hT hBs hV hl hm
  refine callsIn_wide.1 (callsIn_of_wp_marks (n := 9) Tryz.func12 rfl trivial (wpIn_wide.2 ?_) rfl)
  simp only [Tryz.ntmps12, List.size_toArray, List.length_cons, List.length_nil, Nat.reduceAdd, Nat.reduceSub, Array.replicate_succ, Array.replicate_zero, List.push_toArray, List.append_toArray, List.nil_append, List.cons_append]
  have hnf := func_nil12 (.pointer (some ⟨Bs, 0, none⟩))
  go_wp2_with fail
  obtain ⟨W0, hW0⟩ : ∃ W0, W0 = (((w.alloc (.cells #[.slice a m cp] 23)).alloc (.cells #[.int .i64 leave] 3)).alloc (.cells #[.bool false] 4)).alloc (.cells #[.int .i64 0] 3) := ⟨_, rfl⟩
  rw [← hW0]
  have hsz : W0.heap.size = w.heap.size + 4 := by rw [hW0]; simp
  have hG0 : GI w a m cp leave false 0 W0 := by
    rw [hW0]
    refine ⟨at_alloc (at_alloc (at_alloc (heap_alloc_new w _) _) _) _, at_alloc (at_alloc (heap_alloc2_new w _ _) _) _, ?_, ?_, (((Fr.refl _ _).alloc _).alloc _).alloc _ |>.alloc _⟩
    · have := heap_alloc2_new (w.alloc (.cells #[.slice a m cp] 23)) (.cells #[.int .i64 leave] 3) (.cells #[.bool false] 4)
      rw [World.size_alloc] at this
      exact at_alloc this _
    · have := heap_alloc2_new ((w.alloc (.cells #[.slice a m cp] 23)).alloc (.cells #[.int .i64 leave] 3)) (.cells #[.bool false] 4) (.cells #[.int .i64 0] 3)
      rw [World.size_alloc, World.size_alloc] at this
      exact this
  clear hW0
  obtain ⟨hT, hBs, hV, hl, hm⟩ := HH.out
  have HST := all_stops s 8 (by omega) Bs (GX w) T hT W0 (fun k hk h => by unfold GX at h; omega) ((hG0.fr.cell (p := ⟨Bs, 0, none⟩) (cell_lt hBs) (fun h => h)).trans hBs) (hV.kept_no hG0.fr) (Nat.le_trans h8 hG0.fr.size) hs
  clear hT hBs hV hl
  rw [hm] at HST
  clear hm
  refine wpIn_wide.1 (wpIn_rangeFunc_ownH (F := Fence.wide) (n := 9) rfl (by omega) (gf := 25) (lb := #[.pointer (some ⟨Bs, 0, none⟩)]) rfl trivial (enters_of Tryz.func25 (by kernel_rfl) rfl) HST (fun h k => h.trans k) (fun W l o o' _ h hc _ => KeepX.put W l o o' h hc) (Below.refl _ _) (fun _ => rfl)
    (fun pre W => pre = List.range pre.length ∧ GI w a m cp leave false pre.length W)
    (fun c pre W => ∃ r, (c = .ret ∧ (pre = List.range pre.length → r = true)) ∧ ∃ n, GI w a m cp leave r n W)
    (GI.own0 w a m cp leave _ (by omega)) (fun c => GI.own w a m cp leave _ (by omega) _) ⟨rfl, hG0⟩
    (fun x a' W => ∃ g, w.heap.size + 4 ≤ g ∧ W.heap[g]? = some (.cells (tokCells (tokOf T x)).toArray 33 (0, 0)) ∧ a' = { tmps := #[.func (.func 25) #[] #[.pointer (some ⟨Bs, 0, none⟩)], .slice a m cp, .int .i64 leave, undef, .pointer (some ⟨w.heap.size, 0, none⟩), .pointer (some ⟨w.heap.size + 1, 0, none⟩), .pointer (some ⟨w.heap.size + 1 + 1, 0, none⟩), .pointer (some ⟨w.heap.size + 1 + 1 + 1, 0, none⟩), .int .i64 x, .pointer (some ⟨g, 0, none⟩), .func (.func 25) #[] #[.pointer (some ⟨Bs, 0, none⟩)], .bool false, .func (.func 25) #[] #[.pointer (some ⟨Bs, 0, none⟩)], .int .i64 x, tokV (tokOf T x), undef, undef, undef, undef, undef, undef, undef, undef, undef, undef, undef, undef, undef, undef, undef, undef, undef, undef, undef, undef, undef, undef, undef, undef, undef, undef], defers := [] })
    (fun x a' _ X Y row hs hg hr => by obtain ⟨g, h1, h2, h3⟩ := hs; exact ⟨g, h1, (hg.block g (lt_of_block h2) (fun e => by obtain ⟨_, o, ho, hc⟩ := hr g e.symm; rw [h2] at ho; cases ho; cases hc)).trans h2, h3⟩)
    ?assign ?body ?done ?stop)
  case assign =>
    rintro l pre x W K ⟨hp, hG⟩ hK
    rw [enc_of]
    obtain ⟨t, ht⟩ : ∃ t, tokOf T x = t := ⟨_, rfl⟩
    rw [ht] at hK ⊢
    unfold tokV
    gi_wp2
    refine hK _ _ ⟨by simp, fun k o _ hk _ => at_alloc hk _⟩ ⟨by simp, fun k o hk _ _ => at_alloc hk _⟩ ⟨hp, hG.alloc _⟩ ⟨W.heap.size, ?_, heap_alloc_new W _, rfl⟩
    have := lt_of_block hG.c3
    omega
  case body =>
    rintro l pre x a' W hlW ⟨rc, hrc⟩ ⟨hp, hG⟩ ⟨g, hg, hgc, rfl⟩ hlt
    have hmx : Tryz.prog.follows .mixedOrders = true := by kernel_rfl
    have e0 := cell_of_one hG.c0
    have e1 := cell_of_one hG.c1
    have e2 := cell_of_one hG.c2
    have e3 := cell_of_one hG.c3
    have f2 := free_of_one hG.c2
    have f3 := free_of_one hG.c3
    have l0 := lt_of_block hG.c0
    have l1 := lt_of_block hG.c1
    have l2 := lt_of_block hG.c2
    have l3 := lt_of_block hG.c3
    have lg := lt_of_block hgc
    obtain ⟨k, hk⟩ : ∃ k, pre.length = k := ⟨_, rfl⟩
    rw [hk] at hlt e3
    have HG := Lib.hid (And.intro hG (And.intro hp hk))
    have HGC := Lib.hid hgc
    clear hG hp hk hgc
    have hlti : (k : Int) < (m : Int) := by omega
    have hdk : decide ((m : Int) ≤ (k : Int)) = false := decide_eq_false (by omega)
    have hdn : decide (m ≤ k) = false := decide_eq_false (by omega)
    by_cases hx : x = k
    · subst hx
      have hT1 := HH.out
      have hkT : x < T.length := by rw [hT1.2.2.2.2]; exact hlt
      have htk : tokOf T x = T[x] := by unfold tokOf; rw [List.getD_eq_getElem?_getD, List.getElem?_eq_getElem hkT]; rfl
      obtain ⟨b1, o1, rfl, hb1, d0, d1, d2, d3⟩ := (hT1.2.2.2.1.fr HG.out.1.fr).cells4 x (by rw [List.length_map]; exact hkT)
      rw [List.getElem_map] at d0 d1 d2 d3
      have hgc := HGC.out
      rw [htk] at hgc
      have k0 : W.cell? ⟨g, 0, none⟩ = some (.int .i64 T[x].pt.kind) := by rw [cell_of_row W g 0 _ _ (0, 0) hgc]; rfl
      have k1 : W.cell? ⟨g, 1, none⟩ = some (.int .i64 T[x].pt.place) := by rw [cell_of_row W g 1 _ _ (0, 0) hgc]; rfl
      have k2 : W.cell? ⟨g, 2, none⟩ = some (.string ⟨T[x].pt.text.toArray⟩) := by rw [cell_of_row W g 2 _ _ (0, 0) hgc]; rfl
      have k3 : W.cell? ⟨g, 3, none⟩ = some (.int .u64 T[x].pt.num) := by rw [cell_of_row W g 3 _ _ (0, 0) hgc]; rfl
      generalize T[x].pt.kind = y0 at d0 k0
      generalize T[x].pt.place = y1 at d1 k1
      generalize (⟨T[x].pt.text.toArray⟩ : ByteArray) = y2 at d2 k2
      generalize T[x].pt.num = y3 at d3 k3
      clear hT1 hgc htk
      have hxx : ((x : Int) != (x : Int)) = false := by simp
      obtain ⟨z, hz⟩ : ∃ z, z = tokOf T x := ⟨_, rfl⟩
      rw [← hz]
      clear hz
      have HX : Hid (pre ++ [x] = List.range (pre ++ [x]).length ∧ (pre ++ [x]).length = x + 1) := Lib.hid ⟨by
        have h := HG.out.2
        rw [← h.2]; exact range_next h.1, by rw [List.length_append, HG.out.2.2]; rfl⟩
      have HGI : Hid (GI w (some ⟨b1, o1, none⟩) m cp leave false x W) := Lib.hid (by have h := HG.out.1; rw [HG.out.2.2] at h; exact h)
      gi_wp2
      refine region_quiet_round (by kernel_rfl) (by kernel_rfl) (by kernel_rfl) ?_
      repeat (gi_big_quiet_step (fail))
      refine wpQuietIn_nil ?_
      intro _ hw'
      obtain ⟨nq, hw''⟩ := hw'
      subst hw''
      cases hb : ((x : Int) + 1) == leave
      · gi_wp2
        refine ⟨keeps_set _ _ _ _ _, keepX_setN _ _ _ _ (.inr rfl), HX.out.1, ?_⟩
        rw [HX.out.2]
        exact (HGI.out.drewN _).setN (x + 1) _ (by omega)
      · gi_wp2
        exact ⟨keeps_set2 _ _ _ _ _ _ _, true, ⟨rfl, fun _ => rfl⟩, x + 1, ((HGI.out.drewN _).setN (x + 1) _ (by omega)).setR true⟩
    · have hxb : ((x : Int) != (k : Int)) = true := by simp; omega
      gi_wp2
      refine region_quiet_round (by kernel_rfl) (by kernel_rfl) (by kernel_rfl) ?_
      repeat (gi_big_quiet_step (fail))
      refine wpQuietIn_nil ?_
      intro _ hw'
      obtain ⟨nq, hw''⟩ := hw'
      subst hw''
      gi_wp2
      refine ⟨keeps_set _ _ _ _ _, false, ⟨rfl, fun h => absurd (range_last h) (by rw [HG.out.2.2]; exact hx)⟩, _, (HG.out.1.drewN _).setR false⟩
  case done =>
    rintro D xs W hD rfl ⟨hp, hG⟩ hDf
    rw [List.length_range] at hG
    have e0 := cell_of_one hG.c0
    have e2 := cell_of_one hG.c2
    have e3 := cell_of_one hG.c3
    have f2 := free_of_one hG.c2
    have l0 := lt_of_block hG.c0
    have l2 := lt_of_block hG.c2
    have l3 := lt_of_block hG.c3
    have HG := Lib.hid (And.intro hG (And.intro hp hDf))
    clear hG hp hDf
    go_wp2_with fail
    have hDK : (W.setCell ⟨w.heap.size + 1 + 1, 0, none⟩ (.bool true)).heap[D]? = some (.deferred (some [])) := (heap_setCell_other W ⟨w.heap.size + 1 + 1, 0, none⟩ D (.bool true) (by simp; omega)).trans HG.out.2.2
    refine ⟨by simp, .inl ⟨_, _, rfl, run_takeDeferred hDK, ?_⟩⟩
    have h := (HG.out.1.setR true).post D (by omega) hDK
    exact ⟨_, results_goes _ _ _ _ rfl h.1, rfl, h.2⟩
  case stop =>
    rintro D c pre W hD ⟨k, hk, hpre⟩ ⟨r, ⟨rfl, hr⟩, n, hG⟩ hDf
    have hr1 : r = true := hr (by rw [hpre, List.length_range])
    subst hr1
    gi_wp2
    refine ⟨by simp, .inl ⟨_, _, rfl, run_takeDeferred hDf, ?_⟩⟩
    have h := hG.post D (by omega) hDf
    exact ⟨_, results_goes _ _ _ _ rfl h.1, rfl, h.2⟩
end Go.Proofs.YtbdheihjnkfpiaaGreatDoor
