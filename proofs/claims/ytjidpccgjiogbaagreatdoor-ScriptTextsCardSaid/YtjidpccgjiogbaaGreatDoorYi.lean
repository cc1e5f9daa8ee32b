/-
  spoil walked.
-/
/-
  Copies and parts in memory: what stands where.
-/
import Derived.Test.YtjidpccgjiogbaaGreatDoorYg
namespace Go.Proofs.YtjidpccgjiogbaaGreatDoor
open Go Go.RowKit
def Own3 (v1 v2 v3 : Value) : Nat → Prop := fun k => v1.ownBlock = some k ∨ v2.ownBlock = some k ∨ v3.ownBlock = some k
theorem own_blk {w : World} {base size n g cap : Nat} {T : TypeId} {xs : List Value} (h : w.ownsRow base T size (.slice (some ⟨g, 0, none⟩) n cap) n xs) : ∃ cur, w.heap[g]? = some (.cells cur T (0, 0)) := by
  rcases h.2 with ⟨h', _⟩ | ⟨g', cap', cur', h', _, hg, _⟩
  · cases h'
  · simp only [Value.slice.injEq, Option.some.injEq, Addr.mk.injEq, and_true, true_and] at h'
    obtain ⟨rfl, _⟩ := h'
    exact ⟨cur', hg⟩
theorem own_addr {w : World} {base size n m cap : Nat} {ad : Option Addr} {T : TypeId} {xs : List Value} (h : w.ownsRow base T size (.slice ad m cap) n xs) (hn : 0 < n) : ∃ g, ad = some ⟨g, 0, none⟩ ∧ m = n := by
  rcases h.2 with ⟨_, h0⟩ | ⟨g', cap', cur', h', _⟩
  · omega
  · cases h'
    exact ⟨g', rfl, rfl⟩
/-- Where spoil stands. -/
structure SP (W : World) (E lo : Nat) (k cn : Int) (a1 : Option Addr) (n1 c1 : Nat) (a2 : Option Addr) (n2 c2 : Nat) (a3 : Option Addr) (n3 c3 : Nat) (wr : World) : Prop where
  ev : wr.heap[E]? = some (.cells #[.int .i64 k, .int .i64 cn, .slice a1 n1 c1, .slice a2 n2 c2, .slice a3 n3 c3] 27 (0, 0))
  b : ∃ xs : List Int, xs.length = n1 ∧ wr.ownsRow lo 5 1 (.slice a1 n1 c1) n1 (xs.map (Value.int .u8))
  f : ∃ cs, wr.ownsRow lo 70 2 (.slice a2 n2 c2) n2 cs
  p : ∃ cs, wr.ownsRow lo 3 1 (.slice a3 n3 c3) n3 cs
  fr : Fr (Own3 (.slice a1 n1 c1) (.slice a2 n2 c2) (.slice a3 n3 c3)) W wr
  ke : Kt 27 W wr
  kp : Kt 44 W wr
theorem SP.setB {W : World} {E lo : Nat} {k cn : Int} {a1 : Option Addr} {n1 c1 : Nat} {a2 : Option Addr} {n2 c2 : Nat} {a3 : Option Addr} {n3 c3 : Nat} {wr : World} (h : SP W E lo k cn a1 n1 c1 a2 n2 c2 a3 n3 c3 wr) {g : Nat} (ha : a1 = some ⟨g, 0, none⟩) (i : Nat) (y : Int) :
    SP W E lo k cn a1 n1 c1 a2 n2 c2 a3 n3 c3 (wr.setCell ⟨g, i, none⟩ (.int .u8 y)) := by
  subst ha
  obtain ⟨xs, hx, ho⟩ := h.b
  obtain ⟨cs2, h2⟩ := h.f
  obtain ⟨cs3, h3⟩ := h.p
  obtain ⟨cur, hg⟩ := own_blk ho
  refine ⟨Kt.set (p := ⟨g, i, none⟩) hg (by decide) _ _ _ _ h.ev, ⟨xs.set i y, by simp [hx], ?_⟩, ⟨cs2, (Kt.set (p := ⟨g, i, none⟩) hg (by decide) _).owns h2⟩, ⟨cs3, (Kt.set (p := ⟨g, i, none⟩) hg (by decide) _).owns h3⟩, h.fr.setCell _ _ (fun _ => .inl rfl), h.ke.trans (Kt.set (p := ⟨g, i, none⟩) hg (by decide) _), h.kp.trans (Kt.set (p := ⟨g, i, none⟩) hg (by decide) _)⟩
  rw [List.map_set]
  exact (ho.stored i (.int .u8 y)).1
theorem SP.setF {W : World} {E lo : Nat} {k cn : Int} {a1 : Option Addr} {n1 c1 : Nat} {a2 : Option Addr} {n2 c2 : Nat} {a3 : Option Addr} {n3 c3 : Nat} {wr : World} (h : SP W E lo k cn a1 n1 c1 a2 n2 c2 a3 n3 c3 wr) {g : Nat} (ha : a2 = some ⟨g, 0, none⟩) (i : Nat) (y : Value) :
    SP W E lo k cn a1 n1 c1 a2 n2 c2 a3 n3 c3 (wr.setCell ⟨g, i, none⟩ y) := by
  subst ha
  obtain ⟨xs, hx, ho⟩ := h.b
  obtain ⟨cs2, h2⟩ := h.f
  obtain ⟨cs3, h3⟩ := h.p
  obtain ⟨cur, hg⟩ := own_blk h2
  exact ⟨Kt.set (p := ⟨g, i, none⟩) hg (by decide) _ _ _ _ h.ev, ⟨xs, hx, (Kt.set (p := ⟨g, i, none⟩) hg (by decide) _).owns ho⟩, ⟨_, (h2.stored i y).1⟩, ⟨cs3, (Kt.set (p := ⟨g, i, none⟩) hg (by decide) _).owns h3⟩, h.fr.setCell _ _ (fun _ => .inr (.inl rfl)), h.ke.trans (Kt.set (p := ⟨g, i, none⟩) hg (by decide) _), h.kp.trans (Kt.set (p := ⟨g, i, none⟩) hg (by decide) _)⟩
theorem SP.setP {W : World} {E lo : Nat} {k cn : Int} {a1 : Option Addr} {n1 c1 : Nat} {a2 : Option Addr} {n2 c2 : Nat} {a3 : Option Addr} {n3 c3 : Nat} {wr : World} (h : SP W E lo k cn a1 n1 c1 a2 n2 c2 a3 n3 c3 wr) {g : Nat} (ha : a3 = some ⟨g, 0, none⟩) (i : Nat) (y : Value) :
    SP W E lo k cn a1 n1 c1 a2 n2 c2 a3 n3 c3 (wr.setCell ⟨g, i, none⟩ y) := by
  subst ha
  obtain ⟨xs, hx, ho⟩ := h.b
  obtain ⟨cs2, h2⟩ := h.f
  obtain ⟨cs3, h3⟩ := h.p
  obtain ⟨cur, hg⟩ := own_blk h3
  exact ⟨Kt.set (p := ⟨g, i, none⟩) hg (by decide) _ _ _ _ h.ev, ⟨xs, hx, (Kt.set (p := ⟨g, i, none⟩) hg (by decide) _).owns ho⟩, ⟨cs2, (Kt.set (p := ⟨g, i, none⟩) hg (by decide) _).owns h2⟩, ⟨_, (h3.stored i y).1⟩, h.fr.setCell _ _ (fun _ => .inr (.inr rfl)), h.ke.trans (Kt.set (p := ⟨g, i, none⟩) hg (by decide) _), h.kp.trans (Kt.set (p := ⟨g, i, none⟩) hg (by decide) _)⟩
theorem own_slice {w : World} {base size n : Nat} {T : TypeId} {v : Value} {xs : List Value} (h : w.ownsRow base T size v n xs) : ∃ ad c, v = .slice ad n c := by
  rcases h.2 with ⟨rfl, h0⟩ | ⟨g', cap', cur', rfl, _⟩
  · exact ⟨none, 0, by rw [h0]⟩
  · exact ⟨_, _, rfl⟩
set_option maxHeartbeats 8000000 in
set_option maxRecDepth 100000 in
theorem spoil_any (v : Value) (e : Ev) (W : World) (lo hi : Nat) (h : NewIn W lo hi v e) (hs : isLong e = false) :
    Calls Tryz.prog 30 #[v] W fun en W' => en = .returned (.tuple #[]) ∧ Fr (fun k => lo ≤ k ∧ k < hi) W W' ∧ Kt 27 W W' ∧ Kt 44 W W' := by
  obtain ⟨v1, v2, v3, rfl, h1, h2, h3, h4⟩ := h.form
  obtain ⟨s1, s2, s3⟩ := short_small hs
  obtain ⟨k, hk⟩ : ∃ k, e.kind = k := ⟨_, rfl⟩
  obtain ⟨cn, hcn⟩ : ∃ cn, e.conn = cn := ⟨_, rfl⟩
  obtain ⟨n1, hn1⟩ : ∃ n, e.bytes.length = n := ⟨_, rfl⟩
  obtain ⟨n2, hn2⟩ : ∃ n, e.fates.length = n := ⟨_, rfl⟩
  obtain ⟨n3, hn3⟩ : ∃ n, e.picks.length = n := ⟨_, rfl⟩
  rw [hn1] at h1 s1
  rw [hn2] at h2 s2
  rw [hn3] at h3 s3
  rw [hk, hcn]
  obtain ⟨a1, c1, rfl⟩ := own_slice h1
  obtain ⟨a2, c2, rfl⟩ := own_slice h2
  obtain ⟨a3, c3, rfl⟩ := own_slice h3
  obtain ⟨E, hE⟩ : ∃ E, E = W.heap.size := ⟨_, rfl⟩
  obtain ⟨W1, hW1⟩ : ∃ W1, W1 = W.alloc (.cells #[.int .i64 k, .int .i64 cn, .slice a1 n1 c1, .slice a2 n2 c2, .slice a3 n3 c3] 27) := ⟨_, rfl⟩
  have hf1 : Fr No W W1 := by rw [hW1]; exact (Fr.refl _ _).alloc _
  have HSP : Hid (SP W E lo k cn a1 n1 c1 a2 n2 c2 a3 n3 c3 W1) := Lib.hid (by
    refine ⟨by rw [hW1, hE]; exact heap_alloc_new W _, ⟨e.bytes.map (fun c => (c.toNat : Int)), by rw [List.length_map, hn1], ?_⟩, ⟨_, (Kt.ofFr hf1).owns h2⟩, ⟨_, (Kt.ofFr hf1).owns h3⟩, hf1.mono (fun _ _ h => h.elim), Kt.ofFr hf1, Kt.ofFr hf1⟩
    have e1 : (e.bytes.map (fun c => (c.toNat : Int))).map (Value.int .u8) = byteCs e.bytes := by unfold byteCs; rw [List.map_map]; rfl
    rw [e1]
    exact (Kt.ofFr hf1).owns h1)
  have HFIN : Hid (∀ wr, SP W E lo k cn a1 n1 c1 a2 n2 c2 a3 n3 c3 wr → Fr (fun k => lo ≤ k ∧ k < hi) W wr ∧ Kt 27 W wr ∧ Kt 44 W wr) := Lib.hid (fun wr hw => ⟨hw.fr.mono (fun x _ hx => ⟨by
    rcases hx with hx | hx | hx
    · exact (World.ownsRow.lt h1 x hx).1
    · exact (World.ownsRow.lt h2 x hx).1
    · exact (World.ownsRow.lt h3 x hx).1, h4 x hx⟩), hw.ke, hw.kp⟩)
  have HWE := Lib.hid (And.intro hE hW1)
  clear hf1 hW1 hE h1 h2 h3 h4 hk hcn hn1 hn2 hn3 h hs
  go_enter Tryz.func30, Tryz.ntmps30
  go_upto_region 1 with fail
  rw [← HWE.out.1, ← HWE.out.2]
  go_wp2_with fail
  go_loopg [2] n1 (fun g s2 wr => ∃ i : Nat, s2 = .int .i64 i ∧ i ≤ n1 ∧ Hid (SP W E lo k cn a1 n1 c1 a2 n2 c2 a3 n3 c3 wr) ∧ g + i = n1)
  case atStart => exact ⟨0, rfl, by omega, HSP, by omega⟩
  case round =>
    obtain ⟨i, rfl, hi1, HS, hg⟩ := hrel
    have HG := Lib.hid hg
    clear hg
    obtain ⟨⟨p0, p1, p2, p3, p4⟩, _⟩ := res_cells HS.out.ev
    by_cases hlt : i < n1
    · have hlti : (i : Int) < (n1 : Int) := by omega
      have hwi : IntKind.i64.wrap ((i : Int) + 1) = (i : Int) + 1 := IntWalk.i64_in _ (by omega)
      obtain ⟨xs, hx, ho⟩ := HS.out.b
      obtain ⟨g1, rfl, _⟩ := own_addr ho (by omega)
      obtain ⟨x, hxi⟩ : ∃ x, xs[i]? = some x := ⟨_, List.getElem?_eq_getElem (by omega)⟩
      have r1 : wr.cell? ⟨g1, i, none⟩ = some (.int .u8 x) := by rw [ho.cellAt i (by omega), List.getElem?_map, hxi]; rfl
      have r2 := ho.frozenAt i
      have r3 := (World.ownsRow.lt ho g1 rfl).2
      clear ho hx hxi
      go_wp2_with fail
      go_roundg (gk - 1)
      case measure => have := HG.out; omega
      case rel => exact ⟨i + 1, by go_num, by omega, Lib.hid (HS.out.setB rfl i _), by have := HG.out; omega⟩
    · have hlti : ¬ (i : Int) < (n1 : Int) := by omega
      have HS1 := HS
      clear HS HG hlt hi1
      go_wp2_with fail
      go_loopg [3] n2 (fun g s3 wq => ∃ j : Nat, s3 = .int .i64 j ∧ j ≤ n2 ∧ Hid (SP W E lo k cn a1 n1 c1 a2 n2 c2 a3 n3 c3 wq) ∧ g + j = n2)
      case atStart => exact ⟨0, rfl, by omega, HS1, by omega⟩
      case round =>
        obtain ⟨j, rfl, hj, HS, hg⟩ := hrel
        have HG := Lib.hid hg
        clear hg p0 p1 p2 p3 p4
        obtain ⟨⟨p0, p1, p2, p3, p4⟩, _⟩ := res_cells HS.out.ev
        by_cases hlt2 : j < n2
        · have hltj : (j : Int) < (n2 : Int) := by omega
          have hwj : IntKind.i64.wrap ((j : Int) + 1) = (j : Int) + 1 := IntWalk.i64_in _ (by omega)
          obtain ⟨cs, ho⟩ := HS.out.f
          obtain ⟨g2, rfl, _⟩ := own_addr ho (by omega)
          have hl := ho.1
          obtain ⟨x, hxi⟩ : ∃ x, cs[j * 2 + 1]? = some x := ⟨_, List.getElem?_eq_getElem (by omega)⟩
          have r1 : wr.cell? ⟨g2, j * 2 + 1, none⟩ = some x := by rw [ho.cellAt (j * 2 + 1) (by omega), hxi]
          have r2 := ho.frozenAt (j * 2 + 1)
          have r3 := (World.ownsRow.lt ho g2 rfl).2
          clear ho hl hxi
          go_wp2_with fail
          go_roundg (gk - 1)
          case measure => have := HG.out; omega
          case rel => exact ⟨j + 1, by go_num, by omega, Lib.hid (HS.out.setF rfl (j * 2 + 1) _), by have := HG.out; omega⟩
        · have hltj : ¬ (j : Int) < (n2 : Int) := by omega
          have HS2 := HS
          clear HS HG hlt2 hj
          go_wp2_with fail
          go_loopg [4] n3 (fun g s4 wp => ∃ q : Nat, s4 = .int .i64 q ∧ q ≤ n3 ∧ Hid (SP W E lo k cn a1 n1 c1 a2 n2 c2 a3 n3 c3 wp) ∧ g + q = n3)
          case atStart => exact ⟨0, rfl, by omega, HS2, by omega⟩
          case round =>
            obtain ⟨q, rfl, hq, HS, hg⟩ := hrel
            have HG := Lib.hid hg
            clear hg p0 p1 p2 p3 p4
            obtain ⟨⟨p0, p1, p2, p3, p4⟩, _⟩ := res_cells HS.out.ev
            by_cases hlt3 : q < n3
            · have hltq : (q : Int) < (n3 : Int) := by omega
              have hwq : IntKind.i64.wrap ((q : Int) + 1) = (q : Int) + 1 := IntWalk.i64_in _ (by omega)
              obtain ⟨cs, ho⟩ := HS.out.p
              obtain ⟨g3, rfl, _⟩ := own_addr ho (by omega)
              have hl := ho.1
              obtain ⟨x, hxi⟩ : ∃ x, cs[q]? = some x := ⟨_, List.getElem?_eq_getElem (by omega)⟩
              have r1 : wr.cell? ⟨g3, q, none⟩ = some x := by rw [ho.cellAt q (by omega), hxi]
              have r2 := ho.frozenAt q
              have r3 := (World.ownsRow.lt ho g3 rfl).2
              clear ho hl hxi
              go_wp2_with fail
              go_roundg (gk - 1)
              case measure => have := HG.out; omega
              case rel => exact ⟨q + 1, by go_num, by omega, Lib.hid (HS.out.setP rfl q _), by have := HG.out; omega⟩
            · have hltq : ¬ (q : Int) < (n3 : Int) := by omega
              go_wp2_with fail
              go_end0
              exact ⟨rfl, HFIN.out _ HS.out⟩
end Go.Proofs.YtjidpccgjiogbaaGreatDoor

namespace Go.Proofs.YtjidpccgjiogbaaGreatDoor
open Go Go.RowKit
/-- The cells of a row, one by one. -/
theorem rowCells_at : ∀ (ps : List PV), (∀ p ∈ ps, p.1.cells.size = 5) → ∀ (i : Nat) (hi : i < ps.length) (j : Nat), j < 5 → (rowCells ps)[i * 5 + j]? = (ps[i].1.cells)[j]?
  | [], _, i, hi, _, _ => absurd hi (Nat.not_lt_zero _)
  | p :: ps, h, 0, _, j, hj => by
    have hp := h p (by simp)
    have e : rowCells (p :: ps) = p.1.cells.toList ++ rowCells ps := by unfold rowCells; rw [List.flatMap_cons]
    rw [e, Nat.zero_mul, Nat.zero_add, List.getElem?_append_left (by rw [Array.length_toList, hp]; exact hj)]
    simp
  | p :: ps, h, i + 1, hi, j, hj => by
    have hp := h p (by simp)
    have e : rowCells (p :: ps) = p.1.cells.toList ++ rowCells ps := by unfold rowCells; rw [List.flatMap_cons]
    have e2 : (i + 1) * 5 + j = 5 + (i * 5 + j) := by omega
    rw [e, e2, List.getElem?_append_right (by rw [Array.length_toList, hp]; omega), Array.length_toList, hp, Nat.add_sub_cancel_left, rowCells_at ps (fun q hq => h q (by simp [hq])) i (by simpa using hi) j hj]
    simp
/-- Events that are kept, where a slice points. -/
def KsAt (w : World) (a : Option Addr) (es : List Ev) : Prop :=
  es = [] ∨ ∃ b off, a = some ⟨b, off, none⟩ ∧ b < w.heap.size ∧ ∀ (i : Nat) (h : i < es.length), ∃ k cn a1 n1 c1 a2 n2 c2 a3 n3 c3,
    (w.cell? ⟨b, off + i * 5, none⟩ = some (.int .i64 k) ∧ w.cell? ⟨b, off + i * 5 + 1, none⟩ = some (.int .i64 cn) ∧ w.cell? ⟨b, off + i * 5 + 2, none⟩ = some (.slice a1 n1 c1) ∧ w.cell? ⟨b, off + i * 5 + 3, none⟩ = some (.slice a2 n2 c2) ∧ w.cell? ⟨b, off + i * 5 + 4, none⟩ = some (.slice a3 n3 c3)) ∧
    KeptAt w (.agg #[.int .i64 k, .int .i64 cn, .slice a1 n1 c1, .slice a2 n2 c2, .slice a3 n3 c3]) es[i]
theorem KsAt.no {w w' : World} {a : Option Addr} {es : List Ev} (h : KsAt w a es) (hf : Fr No w w') : KsAt w' a es := by
  rcases h with h | ⟨b, off, e, hb, hc⟩
  · exact .inl h
  · refine .inr ⟨b, off, e, Nat.lt_of_lt_of_le hb hf.size, fun i hi => ?_⟩
    obtain ⟨k, cn, a1, n1, c1, a2, n2, c2, a3, n3, c3, ⟨p0, p1, p2, p3, p4⟩, hk⟩ := hc i hi
    exact ⟨k, cn, a1, n1, c1, a2, n2, c2, a3, n3, c3, ⟨(hf.cell (p := ⟨b, off + i * 5, none⟩) hb (fun h => h)).trans p0, (hf.cell (p := ⟨b, off + i * 5 + 1, none⟩) hb (fun h => h)).trans p1, (hf.cell (p := ⟨b, off + i * 5 + 2, none⟩) hb (fun h => h)).trans p2, (hf.cell (p := ⟨b, off + i * 5 + 3, none⟩) hb (fun h => h)).trans p3, (hf.cell (p := ⟨b, off + i * 5 + 4, none⟩) hb (fun h => h)).trans p4⟩, hk.no hf⟩
theorem KsAt.evs {w : World} {a : Option Addr} {es : List Ev} (h : KsAt w a es) : EvsAt w a es := by
  rcases h with h | ⟨b, off, e, hb, hc⟩
  · exact .inl h
  · refine .inr ⟨b, off, e, hb, fun i hi => ?_⟩
    obtain ⟨k, cn, a1, n1, c1, a2, n2, c2, a3, n3, c3, hp, hk⟩ := hc i hi
    obtain ⟨x1, y1, x2, y2, x3, y3, ea, r1, r2, r3⟩ := hk.at.form
    simp only [Value.agg.injEq, Array.mk.injEq, List.cons.injEq, Value.slice.injEq, Value.int.injEq, true_and, and_true] at ea
    obtain ⟨rfl, rfl, ⟨rfl, rfl, rfl⟩, ⟨rfl, rfl, rfl⟩, rfl, rfl, rfl⟩ := ea
    exact ⟨_, _, _, _, _, _, hp, r1, r2, r3⟩
theorem KsAt.get {w : World} {a : Option Addr} {es : List Ev} (h : KsAt w a es) (i : Nat) (hi : i < es.length) :
    ∃ b off k cn a1 n1 c1 a2 n2 c2 a3 n3 c3, a = some ⟨b, off, none⟩ ∧ b < w.heap.size ∧
      (w.cell? ⟨b, off + i * 5, none⟩ = some (.int .i64 k) ∧ w.cell? ⟨b, off + i * 5 + 1, none⟩ = some (.int .i64 cn) ∧ w.cell? ⟨b, off + i * 5 + 2, none⟩ = some (.slice a1 n1 c1) ∧ w.cell? ⟨b, off + i * 5 + 3, none⟩ = some (.slice a2 n2 c2) ∧ w.cell? ⟨b, off + i * 5 + 4, none⟩ = some (.slice a3 n3 c3)) ∧
      KeptAt w (.agg #[.int .i64 k, .int .i64 cn, .slice a1 n1 c1, .slice a2 n2 c2, .slice a3 n3 c3]) es[i] := by
  rcases h with h | ⟨b, off, e, hb, hc⟩
  · rw [h] at hi; exact absurd hi (Nat.not_lt_zero _)
  · obtain ⟨k, cn, a1, n1, c1, a2, n2, c2, a3, n3, c3, hp, hk⟩ := hc i hi
    exact ⟨b, off, k, cn, a1, n1, c1, a2, n2, c2, a3, n3, c3, e, hb, hp, hk⟩
/-- The copies as they are gathered. -/
structure MAt (w : World) (base : Nat) (v : Value) (ps : List PV) : Prop where
  own : w.ownsRow base 27 5 v ps.length (rowCells ps)
  kept : ∀ p ∈ ps, KeptAt w p.1 p.2 ∧ KeptTy w p.1
theorem MAt.ks {w : World} {base : Nat} {ad : Option Addr} {m cp : Nat} {ps : List PV} (h : MAt w base (.slice ad m cp) ps) : KsAt w ad (ps.map (·.2)) := by
  rcases Nat.eq_zero_or_pos ps.length with h0 | h0
  · exact .inl (by rw [List.eq_nil_of_length_eq_zero h0]; rfl)
  · have ho := h.own
    obtain ⟨g, rfl, rfl⟩ := own_addr ho h0
    have hc5 : ∀ p ∈ ps, p.1.cells.size = 5 := fun p hp => by
      obtain ⟨k, cn, a1, n1, c1, a2, n2, c2, a3, n3, c3, e, _⟩ := (h.kept p hp).1.named
      rw [e]; rfl
    refine .inr ⟨g, 0, rfl, (World.ownsRow.lt ho g rfl).2, fun i hi => ?_⟩
    have hi2 : i < ps.length := by simpa using hi
    have hk := (h.kept ps[i] (List.getElem_mem hi2)).1
    obtain ⟨k, cn, a1, n1, c1, a2, n2, c2, a3, n3, c3, e, _⟩ := hk.named
    have cell : ∀ j, j < 5 → w.cell? ⟨g, 0 + i * 5 + j, none⟩ = (ps[i].1.cells)[j]? := fun j hj => by
      rw [Nat.zero_add, ho.cellAt (i * 5 + j) (by omega), rowCells_at ps hc5 i hi2 j hj]
    rw [e] at cell hk
    have e2 : (ps.map (·.2))[i] = ps[i].2 := by simp
    rw [e2]
    exact ⟨k, cn, a1, n1, c1, a2, n2, c2, a3, n3, c3, ⟨cell 0 (by decide), cell 1 (by decide), cell 2 (by decide), cell 3 (by decide), cell 4 (by decide)⟩, hk⟩
/-- One copy more. -/
theorem MAt.one {w w1 w2 : World} {base : Nat} {v v' ve : Value} {e : Ev} {ps : List PV} (h : MAt w base v ps) (hf : Fr No w w1) (hk : KeptAt w1 ve e ∧ KeptTy w1 ve)
    (k1 : w2.ownsRow base 27 5 v' (ps.length + 1) (rowCells ps ++ ve.cells.toList)) (k2 : w1.grownBy w2 v.ownBlock) : MAt w2 base v' (ps ++ [(ve, e)]) := by
  have ho := (Kt.ofFr hf).owns h.own
  refine ⟨by rw [List.length_append, rowCells_snoc]; exact k1, fun p hp => ?_⟩
  rcases List.mem_append.1 hp with hp | hp
  · obtain ⟨x, y⟩ := h.kept p hp
    exact (x.no hf).grown (y.no hf) ho k2
  · obtain rfl : p = (ve, e) := by simpa using hp
    exact hk.1.grown hk.2 ho k2
/-- A part's cell, its events. -/
theorem PartsOut.get {W : World} {base : Nat} {v : Value} {rows : List (List PV)} {vs : List Value} (h : PartsOut W base v rows vs) (i : Nat) (hi : i < rows.length) :
    ∃ G cp ai ci, v = .slice (some ⟨G, 0, none⟩) rows.length cp ∧ G < W.heap.size ∧ W.cell? ⟨G, i, none⟩ = some (.slice ai rows[i].length ci) ∧
      ((∀ p ∈ rows[i], p.1.cells.size = 5) → ∀ (j : Nat) (hj : j < rows[i].length), ∃ R, ai = some ⟨R, 0, none⟩ ∧ R < W.heap.size ∧ ∀ q, q < 5 → W.cell? ⟨R, j * 5 + q, none⟩ = (rows[i][j].1.cells)[q]?) := by
  have hv : i < vs.length := by rw [h.len]; exact hi
  obtain ⟨ad, cp, rfl⟩ := own_slice h.out
  obtain ⟨G, rfl, _⟩ := own_addr h.out (by omega)
  have hr := h.row i hv hi
  obtain ⟨ai, ci, e⟩ := own_slice hr
  rw [e] at hr
  refine ⟨G, cp, ai, ci, rfl, (World.ownsRow.lt h.out G rfl).2, ?_, fun hc5 j hj => ?_⟩
  · rw [h.out.cellAt i (by omega), List.getElem?_eq_getElem hv, e]
  · obtain ⟨R, rfl, _⟩ := own_addr hr (by omega)
    exact ⟨R, rfl, (World.ownsRow.lt hr R rfl).2, fun q hq => by rw [hr.cellAt (j * 5 + q) (by omega), rowCells_at _ hc5 j hj q hq]⟩
theorem PartsOut.head {W : World} {base : Nat} {v : Value} {rows : List (List PV)} {vs : List Value} (h : PartsOut W base v rows vs) (hne : rows ≠ []) : ∃ G pc, v = .slice (some ⟨G, 0, none⟩) rows.length pc := by
  obtain ⟨ad, cp, rfl⟩ := own_slice h.out
  obtain ⟨G, rfl, _⟩ := own_addr h.out (List.length_pos_iff.2 hne)
  exact ⟨G, cp, rfl⟩
theorem PartsOut.at {W : World} {base G N pc : Nat} {rows : List (List PV)} {vs : List Value} (h : PartsOut W base (.slice (some ⟨G, 0, none⟩) N pc) rows vs) (i : Nat) (hi : i < rows.length) :
    G < W.heap.size ∧ ∃ ai ci, W.cell? ⟨G, i, none⟩ = some (.slice ai rows[i].length ci) ∧
      ((∀ p ∈ rows[i], p.1.cells.size = 5) → ∀ (j : Nat) (hj : j < rows[i].length), ∃ R, ai = some ⟨R, 0, none⟩ ∧ R < W.heap.size ∧ ∀ q, q < 5 → W.cell? ⟨R, j * 5 + q, none⟩ = (rows[i][j].1.cells)[q]?) := by
  obtain ⟨G', cp, ai, ci, e, h1, h2, h3⟩ := h.get i hi
  simp only [Value.slice.injEq, Option.some.injEq, Addr.mk.injEq, and_true] at e
  obtain ⟨rfl, _⟩ := e
  exact ⟨h1, ai, ci, h2, h3⟩
theorem PartsOut.kt {W W' : World} {base : Nat} {v : Value} {rows : List (List PV)} {vs : List Value} (h : PartsOut W base v rows vs) (k1 : Kt 27 W W') (k2 : Kt 44 W W') : PartsOut W' base v rows vs :=
  ⟨h.len, k2.owns h.out, fun i h1 h2 => k1.owns (h.row i h1 h2)⟩
/-- What spoils one leaves the others. -/
theorem Chain.far {W W' : World} {lo mid : Nat} (hf : Fr (fun k => lo ≤ k ∧ k < mid) W W') : ∀ {l : List PV} {m hi : Nat}, mid ≤ m → Chain W m hi l → Chain W' m hi l
  | [], _, _, _, h => h
  | p :: l, m, hi, hm, ⟨x, h1, h2, h3⟩ => ⟨x, h1, by
      obtain ⟨v1, v2, v3, e, r1, r2, r3, r4⟩ := h2.form
      refine ⟨v1, v2, v3, e, hf.owns r1 ?_, hf.owns r2 ?_, hf.owns r3 ?_, r4⟩
      · intro k hk hx; have := (World.ownsRow.lt r1 k hk).1; omega
      · intro k hk hx; have := (World.ownsRow.lt r2 k hk).1; omega
      · intro k hk hx; have := (World.ownsRow.lt r3 k hk).1; omega, Chain.far hf (Nat.le_trans hm h1) h3⟩
theorem Chain.five {W : World} : ∀ {l : List PV} {lo hi : Nat}, Chain W lo hi l → ∀ p ∈ l, p.1.cells.size = 5
  | [], _, _, _, p, hp => absurd hp (List.not_mem_nil)
  | q :: l, _, _, ⟨_, _, h2, h3⟩, p, hp => by
    rcases List.mem_cons.1 hp with rfl | hp
    · obtain ⟨v1, v2, v3, e, _⟩ := h2.form
      rw [e]; rfl
    · exact Chain.five h3 p hp
theorem NewIn.at {W : World} {lo hi : Nat} {v : Value} {e : Ev} (h : NewIn W lo hi v e) : EvAt W v e := by
  obtain ⟨v1, v2, v3, rfl, r1, r2, r3, _⟩ := h.form
  obtain ⟨a1, c1, e1, x1⟩ := owns_cells r1 (by unfold byteCs; simp)
  obtain ⟨a2, c2, e2, x2⟩ := owns_cells r2 (fateCs_len e.fates)
  obtain ⟨a3, c3, e3, x3⟩ := owns_cells r3 (by unfold intCs; simp)
  exact ⟨a1, c1, a2, c2, a3, c3, by rw [e1, e2, e3], x1, x2, x3⟩
theorem parts_len : ∀ (es : List Ev), (parts31 es).length ≤ es.length + 1
  | [] => by simp [parts31]
  | e :: es => by
    have h := parts_len es
    unfold parts31
    split
    · simp; omega
    · split
      · simp
      · rename_i p ps hp
        rw [hp] at h
        simp at h ⊢
        omega
theorem parts_head : ∀ (es : List Ev) (p : List Ev) (ps : List (List Ev)), parts31 es = p :: ps → p.length ≤ es.length
  | [], p, ps, h => by
    simp only [parts31, List.cons.injEq] at h
    rw [← h.1]; simp
  | e :: es, p, ps, h => by
    unfold parts31 at h
    split at h
    · simp only [List.cons.injEq] at h
      rw [← h.1]; simp
    · split at h
      · rename_i hp; exact absurd hp (parts_ne es)
      · rename_i p' q' hp
        have h2 := parts_head es p' q' hp
        simp only [List.cons.injEq] at h
        rw [← h.1]
        simp
        exact h2
/-- The parts and the events: what stands where. -/
theorem parts_cons {es : List Ev} {x : Ev} {r : List Ev} {ps : List (List Ev)} (h : parts31 es = (x :: r) :: ps) : ∃ es', es = x :: es' ∧ ¬ x.kind = 5 ∧ parts31 es' = r :: ps := by
  cases es with
  | nil => simp [parts31] at h
  | cons e es =>
    unfold parts31 at h
    split at h
    · simp at h
    · rename_i hk
      split at h
      · rename_i hp; exact absurd hp (parts_ne es)
      · rename_i p q hp
        simp only [List.cons.injEq] at h
        obtain ⟨⟨rfl, rfl⟩, rfl⟩ := h
        exact ⟨es, rfl, hk, hp⟩
theorem parts_crash {es : List Ev} {p : List Ev} {ps : List (List Ev)} (h : parts31 es = [] :: p :: ps) : ∃ c es', es = c :: es' ∧ c.kind = 5 ∧ parts31 es' = p :: ps := by
  cases es with
  | nil => simp [parts31] at h
  | cons e es =>
    unfold parts31 at h
    split at h
    · rename_i hk
      simp only [List.cons.injEq, true_and] at h
      exact ⟨e, es, rfl, hk, h⟩
    · split at h
      · simp at h
      · simp at h
theorem parts_end {es : List Ev} (h : parts31 es = [[]]) : es = [] := by
  cases es with
  | nil => rfl
  | cons e es =>
    unfold parts31 at h
    split at h
    · simp only [List.cons.injEq, true_and] at h
      exact absurd h (parts_ne es)
    · split at h
      · simp at h
      · simp at h
end Go.Proofs.YtjidpccgjiogbaaGreatDoor
