/-
  The law's small functions: num; long.
-/
import Derived.Test.YtjidpccgjiogbaaGreatDoorCh
namespace Go.Proofs.YtjidpccgjiogbaaGreatDoor
open Go Go.RowKit
theorem num_any (n : Int) (w : World) : Calls Tryz.prog 15 #[.int .i64 n] w fun e w' => e = .returned (.int .i64 n) ∧ w = w' := by
  go_enter Tryz.func15, Tryz.ntmps15
  go_wp2_with fail
  go_ret
  exact ⟨rfl, rfl⟩
def isLong (e : Ev) : Bool := decide (20000 < e.bytes.length) || decide (500 < e.picks.length) || decide (500 < e.fates.length)
/-- The cells of an event at b, off. -/
def CellsE (w : World) (b off : Nat) (e : Ev) : Prop :=
  ∃ a1 c1 a2 c2 a3 c3, (w.cell? ⟨b, off, none⟩ = some (.int .i64 e.kind) ∧ w.cell? ⟨b, off + 1, none⟩ = some (.int .i64 e.conn) ∧ w.cell? ⟨b, off + 2, none⟩ = some (.slice a1 e.bytes.length c1) ∧
    w.cell? ⟨b, off + 3, none⟩ = some (.slice a2 e.fates.length c2) ∧ w.cell? ⟨b, off + 4, none⟩ = some (.slice a3 e.picks.length c3)) ∧
    CellsAt w a1 (byteCs e.bytes) ∧ CellsAt w a2 (fateCs e.fates) ∧ CellsAt w a3 (intCs e.picks)
/-- Events where a slice points. -/
def EvsAt (w : World) (a : Option Addr) (es : List Ev) : Prop :=
  es = [] ∨ ∃ b off, a = some ⟨b, off, none⟩ ∧ b < w.heap.size ∧ ∀ (i : Nat) (h : i < es.length), CellsE w b (off + i * 5) es[i]
set_option maxRecDepth 100000 in
set_option maxHeartbeats 8000000 in
theorem long_any (a : Option Addr) (c : Nat) (es : List Ev) (w : World) (h : EvsAt w a es) (hn : es.length ≤ 1000000000) :
    Calls Tryz.prog 6 #[.slice a es.length c] w fun e w' => e = .returned (.bool (es.any isLong)) ∧ w = w' := by
  obtain ⟨L, hL⟩ : ∃ L, es.length = L := ⟨_, rfl⟩
  rw [hL] at hn
  have HL := Lib.hid (And.intro hL h)
  obtain ⟨z, hz⟩ : ∃ z, z = es.any isLong := ⟨_, rfl⟩
  rw [hL, ← hz]
  have HZ := Lib.hid hz
  clear hL h hz
  go_enter Tryz.func6, Tryz.ntmps6
  go_wp2_with fail
  go_loopg [3] L (fun gk v wr => ∃ (i : Nat), v = .int .i64 i ∧ i ≤ L ∧ Hid ((es.drop i).any isLong = z) ∧ w = wr ∧ gk + i = L)
  case atStart => exact ⟨0, rfl, by omega, Lib.hid HZ.out.symm, rfl, by omega⟩
  case round =>
    obtain ⟨i, rfl, hi, HA, rfl, hgk⟩ := hrel
    have HG := Lib.hid hgk
    clear hgk
    by_cases hlt : i < L
    · have hlti : (i : Int) < (L : Int) := by omega
      have hil : i < es.length := by rw [HL.out.1]; exact hlt
      obtain ⟨b, off, rfl, hb, hc⟩ : ∃ b off, a = some ⟨b, off, none⟩ ∧ b < w.heap.size ∧ ∀ (i : Nat) (h : i < es.length), CellsE w b (off + i * 5) es[i] := by
        rcases HL.out.2 with h | h
        · rw [h] at hil; exact absurd hil (Nat.not_lt_zero _)
        · exact h
      obtain ⟨a1, c1, a2, c2, a3, c3, ⟨p0, p1, p2, p3, p4⟩, _⟩ := hc i hil
      have hdr : es.drop i = es[i] :: es.drop (i + 1) := List.drop_eq_getElem_cons hil
      obtain ⟨e, he⟩ : ∃ e, es[i] = e := ⟨_, rfl⟩
      rw [he] at p0 p1 p2 p3 p4 hdr
      obtain ⟨n1, hn1⟩ : ∃ n1, e.bytes.length = n1 := ⟨_, rfl⟩
      obtain ⟨n2, hn2⟩ : ∃ n2, e.fates.length = n2 := ⟨_, rfl⟩
      obtain ⟨n3, hn3⟩ : ∃ n3, e.picks.length = n3 := ⟨_, rfl⟩
      rw [hn1] at p2
      rw [hn2] at p3
      rw [hn3] at p4
      have HI : Hid ((isLong e || (es.drop (i + 1)).any isLong) = z) := Lib.hid (by rw [← HA.out, hdr, List.any_cons])
      have HE : Hid (isLong e = (decide (20000 < n1) || decide (500 < n3) || decide (500 < n2))) := Lib.hid (by unfold isLong; rw [hn1, hn2, hn3])
      have hwi : IntKind.i64.wrap ((i : Int) + 1) = (i : Int) + 1 := IntWalk.i64_in _ (by omega)
      clear he hdr hn1 hn2 hn3 hc p0 p1 hb
      by_cases k1 : 20000 < n1
      · have k1i : (20000 : Int) < (n1 : Int) := by omega
        have HT : Hid (z = true) := Lib.hid (by rw [← HI.out, HE.out, decide_eq_true k1]; simp)
        go_wp2_with fail
        go_ret
        exact ⟨by rw [HT.out]; rfl, rfl⟩
      · have k1i : ¬ (20000 : Int) < (n1 : Int) := by omega
        by_cases k3 : 500 < n3
        · have k3i : (500 : Int) < (n3 : Int) := by omega
          have HT : Hid (z = true) := Lib.hid (by rw [← HI.out, HE.out, decide_eq_true k3]; simp)
          go_wp2_with fail
          go_ret
          exact ⟨by rw [HT.out]; rfl, rfl⟩
        · have k3i : ¬ (500 : Int) < (n3 : Int) := by omega
          by_cases k2 : 500 < n2
          · have k2i : (500 : Int) < (n2 : Int) := by omega
            have HT : Hid (z = true) := Lib.hid (by rw [← HI.out, HE.out, decide_eq_true k2]; simp)
            go_wp2_with fail
            go_ret
            exact ⟨by rw [HT.out]; rfl, rfl⟩
          · have k2i : ¬ (500 : Int) < (n2 : Int) := by omega
            have HT : Hid ((es.drop (i + 1)).any isLong = z) := Lib.hid (by rw [← HI.out, HE.out, decide_eq_false k1, decide_eq_false k2, decide_eq_false k3]; simp)
            go_wp2_with fail
            go_roundg (gk - 1)
            case measure => have := HG.out; omega
            case rel => exact ⟨i + 1, by go_num, by omega, HT, rfl, by have := HG.out; omega⟩
    · have hlti : ¬ (i : Int) < (L : Int) := by omega
      have HT : Hid (z = false) := Lib.hid (by rw [← HA.out, List.drop_eq_nil_of_le (by rw [HL.out.1]; omega)]; rfl)
      go_wp2_with fail
      go_ret
      exact ⟨by rw [HT.out]; rfl, rfl⟩
end Go.Proofs.YtjidpccgjiogbaaGreatDoor
