/-
  slices.IndexFunc and ContainsFunc at tokens walked.
-/
import Derived.Test.YtbdheihjnkfpiaaGreatDoorShelf
import Derived.Test.YtbdheihjnkfpiaaGreatDoorKit
import Derived.Test.YtbdheihjnkfpiaaGreatDoorPs
import Derived.Lib.Hide
import Derived.Shelf.SlicesQ.IndexFunc
import Derived.Deep.LoopGhost
import Derived.Deep.DeepCutAuto
import Derived.Deep.DeepMust
namespace Go.Proofs.YtbdheihjnkfpiaaGreatDoor
open Go Go.RowKit
/-- A token as it comes in: its cells. -/
def ptCells (t : PT) : List Value := [.int .i64 t.kind, .int .i64 t.place, .string ⟨t.text.toArray⟩, .int .u64 t.num]
def ptV (t : PT) : Value := .agg (ptCells t).toArray
/-- The tokens stand at the slice's cells. -/
def Toks (w : World) (a : Option Addr) (l : List PT) : Prop :=
  l = [] ∨ ∃ b off, a = some ⟨b, off, none⟩ ∧ b < w.heap.size ∧ ∀ j (h : j < l.length), ∀ i v, (ptCells l[j])[i]? = some v → w.cell? ⟨b, off + j * 4 + i, none⟩ = some v
/-- What is asked of a predicate on tokens. -/
def PredT (g : Nat) (p : PT → Bool) (w : World) : Prop := ∀ (W : World) (t : PT), t.num < 18446744073709551616 → Below w.heap.size w W → Calls Tryz.prog g #[ptV t] W fun e w' => e = .returned (.bool (p t)) ∧ Below w.heap.size w w'
theorem any_from (p : PT → Bool) (l : List PT) (k : Nat) (h : k < l.length) : (l.drop k).any p = (p l[k] || (l.drop (k + 1)).any p) := by
  rw [List.drop_eq_getElem_cons h, List.any_cons]
set_option maxHeartbeats 4000000 in
set_option maxRecDepth 100000 in
/-- slices.IndexFunc at tokens: is there one? -/
theorem indexFunc_any (g : Nat) (eg : ∀ args w, (callFunc g args).run Tryz.prog w = .ok (.enter g args) w) (p : PT → Bool) (a : Option Addr) (c : Nat) (l : List PT) (w : World)
    (hp : PredT g p w) (hl : Toks w a l) (hbig : l.length ≤ 1000000000) (hnum : ∀ t ∈ l, t.num < 18446744073709551616) :
    Calls Tryz.prog 48 #[.slice a l.length c, .func (.func g) #[] #[]] w fun e w' => (∃ i : Int, e = .returned (.int .i64 i) ∧ decide (0 ≤ i) = l.any p) ∧ Below w.heap.size w w' := by
  obtain ⟨R, hR⟩ : ∃ R, l.any p = R := ⟨_, rfl⟩
  rw [hR]
  have HR := Lib.hid hR
  have HL := Lib.hid hl
  have HP := Lib.hid hp
  have HN := Lib.hid hnum
  clear hR hl hp hnum
  obtain ⟨n, hn⟩ : ∃ n, l.length = n := ⟨_, rfl⟩
  rw [hn]
  rw [hn] at hbig
  have HNn := Lib.hid hn
  clear hn
  go_enter Tryz.func48, Tryz.ntmps48
  go_wp2
  go_loopg [5, 8] n (fun gg _ s8 wr => ∃ k : Nat, k ≤ n ∧ s8 = .int .i64 k ∧ Hid (Below w.heap.size w wr) ∧ Hid (R = (l.drop k).any p) ∧ gg + k = n)
  case atStart => exact ⟨0, by omega, rfl, Lib.hid (Below.refl _ w), Lib.hid (by rw [← HR.out]; rfl), by omega⟩
  case round =>
    obtain ⟨k, hk, rfl, BW, HT, hg⟩ := hrel
    by_cases hlt : k < n
    · have hltz : (k : Int) < (n : Int) := by omega
      have hkl : k < l.length := by rw [HNn.out]; exact hlt
      rcases HL.out with h0 | ⟨b, off, ha, hb, hc⟩
      · rw [h0] at hkl; simp at hkl
      subst ha
      have hcell : ∀ i v, (ptCells l[k])[i]? = some v → wr.cell? ⟨b, off + k * 4 + i, none⟩ = some v := fun i v hi => by
        rw [BW.out.cell (p := ⟨b, off + k * 4 + i, none⟩) hb]
        exact hc k hkl i v hi
      have hcall := HP.out wr l[k] (HN.out _ (List.getElem_mem hkl)) BW.out
      have hT := HT.out
      rw [any_from p l k hkl] at hT
      generalize l[k] = y at hcell hcall hT
      clear hc hkl
      have l0 : wr.cell? ⟨b, off + k * 4, none⟩ = some (.int .i64 y.kind) := hcell 0 _ rfl
      have l1 : wr.cell? ⟨b, off + k * 4 + 1, none⟩ = some (.int .i64 y.place) := hcell 1 _ rfl
      have l2 : wr.cell? ⟨b, off + k * 4 + 2, none⟩ = some (.string ⟨y.text.toArray⟩) := hcell 2 _ rfl
      have l3 : wr.cell? ⟨b, off + k * 4 + 3, none⟩ = some (.int .u64 y.num) := hcell 3 _ rfl
      clear hcell
      have hcall : Calls Tryz.prog g #[.agg #[.int .i64 y.kind, .int .i64 y.place, .string ⟨y.text.toArray⟩, .int .u64 y.num]] wr fun e w' => e = .returned (.bool (p y)) ∧ Below w.heap.size w w' := hcall
      cases hq : p y with
      | true =>
        rw [hq] at hcall hT
        have HT2 := Lib.hid hT
        clear hT HT hq
        go_wp2_with (go_at_fn g; refine hcall.mono ?_; rintro e w' ⟨rfl, hb'⟩)
        go_ret
        exact ⟨⟨_, rfl, by rw [HT2.out]; simp⟩, hb'⟩
      | false =>
        rw [hq] at hcall hT
        have HT2 := Lib.hid hT
        clear hT HT hq
        go_wp2_with (go_at_fn g; refine hcall.mono ?_; rintro e w' ⟨rfl, hb'⟩)
        go_roundg (gk - 1)
        case measure => omega
        case rel => exact ⟨k + 1, by omega, by go_num, Lib.hid hb', Lib.hid (by rw [HT2.out]; rfl), by omega⟩
    · have hltz : ¬ (k : Int) < (n : Int) := by omega
      have HT2 := Lib.hid (show R = false by rw [HT.out, List.drop_eq_nil_of_le (by rw [HNn.out]; omega)]; rfl)
      go_wp2
      go_ret
      exact ⟨⟨_, rfl, by rw [HT2.out]; rfl⟩, BW.out⟩
set_option maxHeartbeats 4000000 in
theorem containsFunc_any (g : Nat) (eg : ∀ args w, (callFunc g args).run Tryz.prog w = .ok (.enter g args) w) (p : PT → Bool) (a : Option Addr) (c : Nat) (l : List PT) (w : World)
    (hp : PredT g p w) (hl : Toks w a l) (hbig : l.length ≤ 1000000000) (hnum : ∀ t ∈ l, t.num < 18446744073709551616) :
    Calls Tryz.prog 27 #[.slice a l.length c, .func (.func g) #[] #[]] w fun e w' => e = .returned (.bool (l.any p)) ∧ Below w.heap.size w w' := by
  have HC := Lib.hid (indexFunc_any g eg p a c l w hp hl hbig hnum)
  clear hp hl hnum
  obtain ⟨R, hR⟩ : ∃ R, l.any p = R := ⟨_, rfl⟩
  rw [hR] at HC ⊢
  clear hR
  generalize l.length = n at HC ⊢
  go_enter Tryz.func27, Tryz.ntmps27
  go_wp2_with (go_at_call 48; refine HC.out.mono ?_; rintro e w' ⟨⟨i, rfl, hi⟩, hb'⟩)
  go_ret
  exact ⟨by rw [← hi]; rfl, hb'⟩
end Go.Proofs.YtbdheihjnkfpiaaGreatDoor
