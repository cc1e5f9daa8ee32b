/-
  Count and Sent walked; an append in a region that keeps its order.
-/
import Derived.Test.YtjidpccgjiogbaaGreatDoorYb
import Derived.Test.YtjidpccgjiogbaaGreatDoorKz
namespace Go.Proofs.YtjidpccgjiogbaaGreatDoor
open Go Go.RowKit
/-- An append in a region that keeps its order: of any number of elements, none too. -/
theorem wpList_append_any {P : Program} {ops : Array Oper} {rest : List Oper} {Q : Exit → Act → World → Prop} {w : World} {o : Oper} {a : Act} (hgd : o.guard = none) (s x : Operand) (t : TypeId)
    (ho : o.op = .call { callee := .builtin .append, args := #[s, x], argTypes := #[t, t] })
    (base : Nat) (e : TypeId) (i : TypeInfo) (zv : Value) (size bytes : Nat) (ht : P.underlying t = some (.slice e)) (hi : P.info? e = some i) (hz : i.zero = some zv)
    (hsize : i.size = size) (hby : i.bytes = bytes) (hzs : zv.cells.size = size) (hsz : 0 < size)
    (v : Value) (n : Nat) (xs : List Value) (hs : a.eval s = v) (hown : w.ownsRow base e size v n xs)
    (ad : Option Addr) (m c : Nat) (news : List Value) (hx : a.eval x = .slice ad m c) (hl : news.length = m * size) (hnews : CellsAt w ad news) (h1 : ∀ u ∈ news, u.oneCell' = true)
    (h63 : n + m ≤ maxLen) (hbytes : (n + m) * bytes ≤ 140737488355328) (hbase : base ≤ w.heap.size)
    (h : ∀ v' w', w'.ownsRow base e size v' (n + m) (xs ++ news) → w.grownBy w' v.ownBlock → wpList P ops Q rest (a.put o.dst v') w') :
    wpList P ops Q (o :: rest) a w := by
  have hw : Region.wanted o (yielded ops a.tmps) = true := by simp [Region.wanted, hgd]
  have h2 := step_append_any (P := P) (ops := ops) (Q := Q) (E := True) (K := fun a' w' => wpList P ops Q rest a' w') hgd s x t ho base e i zv size bytes ht hi hz hsize hby hzs hsz v n xs hs hown ad m c news hx hl hnews h1 h63 hbytes hbase h
  rw [if_pos hw] at h2
  unfold wpList
  rw [if_pos hw]
  exact .inl h2
/-- How many are of a kind. -/
def countK (k : Int) (es : List Ev) : Nat := es.countP (fun e => e.kind == k)
theorem countK_take (k : Int) (es : List Ev) (i : Nat) (h : i < es.length) : countK k (es.take (i + 1)) = countK k (es.take i) + (if es[i].kind = k then 1 else 0) := by
  unfold countK
  rw [List.take_succ_eq_append_getElem h, List.countP_append]
  by_cases hk : es[i].kind = k
  · simp [hk]
  · simp [hk]
theorem countK_le (k : Int) (es : List Ev) (i : Nat) : countK k (es.take i) ≤ i := by
  unfold countK
  exact Nat.le_trans List.countP_le_length (by rw [List.length_take]; omega)
/-- What was sent on a connection. -/
def sentE (cn : Int) (e : Ev) : Bytes := if e.kind = 2 ∧ e.conn = cn then e.bytes else []
def sentB (cn : Int) (es : List Ev) : Bytes := es.flatMap (sentE cn)
theorem sentB_take (cn : Int) (es : List Ev) (i : Nat) (h : i < es.length) : sentB cn (es.take (i + 1)) = sentB cn (es.take i) ++ sentE cn es[i] := take_flat _ es i h
theorem sentB_len (cn : Int) : ∀ (es : List Ev), (∀ e ∈ es, isLong e = false) → (sentB cn es).length ≤ 20000 * es.length := by
  intro es
  induction es with
  | nil => intro _; simp [sentB]
  | cons e es ih =>
    intro h
    have h1 := (short_small (h e (by simp))).1
    have h2 := ih (fun x hx => h x (by simp [hx]))
    unfold sentB at h2 ⊢
    rw [List.flatMap_cons, List.length_append]
    have h3 : (sentE cn e).length ≤ 20000 := by
      unfold sentE
      split
      · exact h1
      · simp
    simp only [List.length_cons]
    omega
set_option maxHeartbeats 4000000 in
set_option maxRecDepth 100000 in
theorem count_any (kd : Int) (a : Option Addr) (c n : Nat) (es : List Ev) (w : World) (hn : es.length = n) (hl : EvsAt w a es) (hbig : n ≤ 1000000000) :
    Calls Tryz.prog 27 #[.int .i64 kd, .slice a n c] w fun e w' => e = .returned (.int .i64 (countK kd es)) ∧ Fr No w w' := by
  have HX := Lib.hid (And.intro hl hn)
  clear hl hn
  go_enter Tryz.func27, Tryz.ntmps27
  go_wp2_with fail
  go_loopg [5, 7, 10] n (fun g s5 _ s10 wr => ∃ i q : Nat, s5 = .int .i64 q ∧ s10 = .int .i64 i ∧ i ≤ n ∧ q ≤ i ∧ Hid (q = countK kd (es.take i)) ∧ Hid (Fr No w wr) ∧ g + i = n)
  case atStart => exact ⟨0, 0, rfl, rfl, by omega, by omega, Lib.hid rfl, Lib.hid (Fr.refl _ _), by omega⟩
  case round =>
    obtain ⟨i, q, rfl, rfl, hi, hq, HQ, HF, hg⟩ := hrel
    have HG := Lib.hid hg
    clear hg
    by_cases hlt : i < n
    · have hlti : (i : Int) < (n : Int) := by omega
      have hwq : IntKind.i64.wrap ((q : Int) + 1) = (q : Int) + 1 := IntWalk.i64_in _ (by omega)
      have l1 : i < es.length := by rw [HX.out.2]; exact hlt
      obtain ⟨b9, off, k, cn, a1, n1, c1, a2, n2, c2, a3, n3, c3, rfl, hb9, ⟨p0, p1, p2, p3, p4⟩, _, hke, _, _⟩ := (HX.out.1.no HF.out).get i l1
      obtain ⟨W2, hW2⟩ : ∃ W2, W2 = wr.alloc (.cells #[.int .i64 k, .int .i64 cn, .slice a1 n1 c1, .slice a2 n2 c2, .slice a3 n3 c3] 27) := ⟨_, rfl⟩
      obtain ⟨E, hE⟩ : ∃ E, E = wr.heap.size := ⟨_, rfl⟩
      have hE2 : W2.heap[E]? = some (.cells #[.int .i64 k, .int .i64 cn, .slice a1 n1 c1, .slice a2 n2 c2, .slice a3 n3 c3] 27 (0, 0)) := by rw [hW2, hE]; exact heap_alloc_new wr _
      obtain ⟨⟨q0, q1, q2, q3, q4⟩, _⟩ := res_cells hE2
      have HN2 : Hid (Fr No w W2) := Lib.hid (by rw [hW2]; exact HF.out.alloc _)
      have hEl := lt_of_block hE2
      clear hE2
      have hct := countK_take kd es i l1
      rw [hke, ← HQ.out] at hct
      by_cases hk : k = kd
      · have hkb : (k == kd) = true := by simpa using hk
        have hkd : decide (k = kd) = true := decide_eq_true hk
        have HC : Hid (q + 1 = countK kd (es.take (i + 1))) := Lib.hid (by rw [hct, if_pos hk])
        clear hct hk hke
        go_upto_region 5 with fail
        rw [← hE, ← hW2]
        clear hW2 hE
        go_wp2_with fail
        go_roundg (gk - 1)
        case measure => have := HG.out; omega
        case rel => exact ⟨i + 1, q + 1, by go_num, by go_num, by omega, by omega, HC, HN2, by have := HG.out; omega⟩
      · have hkb : (k == kd) = false := by simpa using hk
        have hkd : decide (k = kd) = false := decide_eq_false hk
        have HC : Hid (q = countK kd (es.take (i + 1))) := Lib.hid (by rw [hct, if_neg hk]; rfl)
        clear hct hke
        go_upto_region 5 with fail
        rw [← hE, ← hW2]
        clear hW2 hE
        go_wp2_with fail
        go_roundg (gk - 1)
        case measure => have := HG.out; omega
        case rel => exact ⟨i + 1, q, rfl, by go_num, by omega, by omega, HC, HN2, by have := HG.out; omega⟩
    · have hlti : ¬ (i : Int) < (n : Int) := by omega
      obtain rfl : i = n := by omega
      have HC : Hid (q = countK kd es) := Lib.hid (by rw [HQ.out, List.take_of_length_le (by rw [HX.out.2]; omega)])
      go_wp2_with fail
      go_ret
      exact ⟨by rw [HC.out]; rfl, HF.out⟩
set_option maxHeartbeats 4000000 in
set_option maxRecDepth 100000 in
theorem sent_any (cc : Int) (a : Option Addr) (c n : Nat) (es : List Ev) (w : World) (hn : es.length = n) (hl : EvsAt w a es) (hs : ∀ e ∈ es, isLong e = false) (hbig : n ≤ 100) :
    Calls Tryz.prog 29 #[.int .i64 cc, .slice a n c] w fun e w' => ∃ v, e = .returned v ∧ OwnsB w' w.heap.size v (sentB cc es) ∧ Fr No w w' := by
  have HX := Lib.hid (And.intro hl (And.intro hn hs))
  clear hl hn hs
  go_enter Tryz.func29, Tryz.ntmps29
  go_wp2_with fail
  go_loopg [5, 7, 10] n (fun g s5 _ s10 wr => ∃ (i : Nat) (ad : Option Addr) (m cp : Nat), s5 = .slice ad m cp ∧ s10 = .int .i64 i ∧ i ≤ n ∧ m ≤ 20000 * i ∧ Hid (OwnsB wr w.heap.size (.slice ad m cp) (sentB cc (es.take i)) ∧ m = (sentB cc (es.take i)).length) ∧ Hid (Fr No w wr) ∧ g + i = n)
  case atStart => exact ⟨0, none, 0, 0, rfl, rfl, by omega, by omega, Lib.hid ⟨OwnsB.nil _ _, rfl⟩, Lib.hid (Fr.refl _ _), by omega⟩
  case round =>
    obtain ⟨i, ad, m, cp, rfl, rfl, hi, hm, HO, HF, hg⟩ := hrel
    have HG := Lib.hid hg
    clear hg
    by_cases hlt : i < n
    · have hlti : (i : Int) < (n : Int) := by omega
      have l1 : i < es.length := by rw [HX.out.2.1]; exact hlt
      obtain ⟨b9, off, k, cn, a1, n1, c1, a2, n2, c2, a3, n3, c3, rfl, hb9, ⟨p0, p1, p2, p3, p4⟩, hev, hke, hcne, hne⟩ := (HX.out.1.no HF.out).get i l1
      obtain ⟨W2, hW2⟩ : ∃ W2, W2 = wr.alloc (.cells #[.int .i64 k, .int .i64 cn, .slice a1 n1 c1, .slice a2 n2 c2, .slice a3 n3 c3] 27) := ⟨_, rfl⟩
      obtain ⟨E, hE⟩ : ∃ E, E = wr.heap.size := ⟨_, rfl⟩
      have hE2 : W2.heap[E]? = some (.cells #[.int .i64 k, .int .i64 cn, .slice a1 n1 c1, .slice a2 n2 c2, .slice a3 n3 c3] 27 (0, 0)) := by rw [hW2, hE]; exact heap_alloc_new wr _
      obtain ⟨⟨q0, q1, q2, q3, q4⟩, _⟩ := res_cells hE2
      have hn2 : Fr No wr W2 := by rw [hW2]; exact (Fr.refl _ _).alloc _
      have HN2 : Hid (Fr No w W2) := Lib.hid (HF.out.trans_same hn2)
      have hEl := lt_of_block hE2
      have hshort := (short_small (HX.out.2.2 _ (List.getElem_mem l1))).1
      have hct := sentB_take cc es i l1
      have hcells : CellsAt W2 a1 (byteCs es[i].bytes) := by
        obtain ⟨x1, y1, x2, y2, x3, y3, ea, r1, _⟩ := (hev.no hn2).form
        simp only [Value.agg.injEq, Array.mk.injEq, List.cons.injEq, Value.slice.injEq, Value.int.injEq, true_and, and_true] at ea
        obtain ⟨_, _, ⟨rfl, _⟩, _⟩ := ea
        exact r1
      have HO2 := Lib.hid (HO.out.1.no hn2)
      clear hE2 hn2 hev
      rw [hne] at hshort
      by_cases hk : k = 2
      · have hkb : (k == 2) = true := by simpa using hk
        have hkd : decide (k = 2) = true := decide_eq_true hk
        by_cases hc : cn = cc
        · have hcb : (cn == cc) = true := by simpa using hc
          have hcd : decide (cn = cc) = true := decide_eq_true hc
          have hse : sentE cc es[i] = es[i].bytes := by unfold sentE; rw [if_pos ⟨by rw [hke]; exact hk, by rw [hcne]; exact hc⟩]
          rw [hse] at hct
          have HC := Lib.hid (And.intro hct (And.intro hcells hne))
          clear hct hcells hse hk hc hke hcne hne
          obtain ⟨i0, hi0, hz0, hz1, hz2⟩ := info_parts infoByte
          go_upto_region 5 with fail
          rw [← hE, ← hW2]
          clear hW2 hE
          go_wp2_with (at_builtin; refine wpList_append_any (P := Tryz.prog) rfl _ _ 23 rfl w.heap.size 5 i0 (.int .u8 0) 1 1 Tryz.underlying23 hi0 hz0 hz1 hz2 rfl (by decide) (.slice ad m cp) m ((sentB cc (es.take i)).map byteV) rfl (by have := HO2.out; unfold OwnsB at this; rw [← HO.out.2] at this; exact this) a1 n1 c1 (byteCs es[i].bytes) rfl (by unfold byteCs; rw [List.length_map, HC.out.2.2, Nat.mul_one]) HC.out.2.1 (by intro u hu; unfold byteCs at hu; obtain ⟨c, _, rfl⟩ := List.mem_map.1 hu; rfl) (by unfold maxLen; omega) (by omega) (by exact HN2.out.size) ?_; intro v3 w3 k1 k2)
          have hO3 : OwnsB w3 w.heap.size v3 (sentB cc (es.take (i + 1))) := by
            unfold OwnsB
            rw [HC.out.1, List.map_append, List.length_append, ← HO.out.2, HC.out.2.2]
            exact k1
          have hf3 : Fr No w w3 := HN2.out.grown k2 (fun r e hr => by have := (World.ownsRow.lt HO2.out r e).1; omega)
          obtain ⟨ad3, cp3, rfl, _⟩ := hO3.cells
          go_roundg (gk - 1)
          case measure => have := HG.out; omega
          case rel => exact ⟨i + 1, ad3, _, cp3, rfl, by go_num, by omega, by rw [HC.out.1, List.length_append, ← HO.out.2, HC.out.2.2]; omega, Lib.hid ⟨hO3, rfl⟩, Lib.hid hf3, by have := HG.out; omega⟩
        · have hcb : (cn == cc) = false := by simpa using hc
          have hcd : decide (cn = cc) = false := decide_eq_false hc
          have hse : sentE cc es[i] = [] := by unfold sentE; rw [if_neg (fun h => hc (by rw [← hcne]; exact h.2))]
          rw [hse, List.append_nil] at hct
          have HC := Lib.hid hct
          clear hct hcells hse hk hke hcne hne
          go_upto_region 5 with fail
          rw [← hE, ← hW2]
          clear hW2 hE
          go_wp2_with fail
          go_roundg (gk - 1)
          case measure => have := HG.out; omega
          case rel => exact ⟨i + 1, ad, m, cp, rfl, by go_num, by omega, by omega, Lib.hid (by rw [HC.out]; exact ⟨HO2.out, HO.out.2⟩), HN2, by have := HG.out; omega⟩
      · have hkb : (k == 2) = false := by simpa using hk
        have hkd : decide (k = 2) = false := decide_eq_false hk
        have hse : sentE cc es[i] = [] := by unfold sentE; rw [if_neg (fun h => hk (by rw [← hke]; exact h.1))]
        rw [hse, List.append_nil] at hct
        have HC := Lib.hid hct
        clear hct hcells hse hke hcne hne
        go_upto_region 5 with fail
        rw [← hE, ← hW2]
        clear hW2 hE
        go_wp2_with fail
        go_roundg (gk - 1)
        case measure => have := HG.out; omega
        case rel => exact ⟨i + 1, ad, m, cp, rfl, by go_num, by omega, by omega, Lib.hid (by rw [HC.out]; exact ⟨HO2.out, HO.out.2⟩), HN2, by have := HG.out; omega⟩
    · have hlti : ¬ (i : Int) < (n : Int) := by omega
      obtain rfl : i = n := by omega
      have HC : Hid (sentB cc (es.take i) = sentB cc es) := Lib.hid (by rw [List.take_of_length_le (by rw [HX.out.2.1]; omega)])
      go_wp2_with fail
      go_ret
      exact ⟨_, rfl, by rw [← HC.out]; exact HO.out.1, HF.out⟩
end Go.Proofs.YtjidpccgjiogbaaGreatDoor
