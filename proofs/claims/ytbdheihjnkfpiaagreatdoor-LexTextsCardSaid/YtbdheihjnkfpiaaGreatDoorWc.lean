/-
  The lexer's comments walked: how many bytes one has, or that it does not end.
-/
import Derived.Test.YtbdheihjnkfpiaaGreatDoorWb
namespace Go.Proofs.YtbdheihjnkfpiaaGreatDoor
open Go Go.RowKit

theorem endLen_step (s : ByteArray) (k : Nat) (h : k + 1 < s.size) : endLen (s.data.toList.drop k) = if s[k] = 42 ∧ s[k + 1] = 47 then some 2 else (endLen (s.data.toList.drop (k + 1))).map (· + 1) := by
  rw [drop_byte s k (by omega), endLen, drop_byte s (k + 1) h]
  simp
theorem endLen_end (s : ByteArray) (k : Nat) (h : s.size ≤ k + 1) : endLen (s.data.toList.drop k) = none := by
  by_cases h1 : k < s.size
  · rw [drop_byte s k h1, List.drop_eq_nil_of_le (by simp; omega)]
    simp [endLen]
  · rw [List.drop_eq_nil_of_le (by simp; omega)]; rfl
theorem beq_byte (c : UInt8) (n : Nat) (hn : n < 256) : ((c.toNat : Int) == (n : Int)) = decide (c = UInt8.ofNat n) := by
  rw [Bool.eq_iff_iff]
  simp only [beq_iff_eq, decide_eq_true_eq, ← UInt8.toNat_inj, UInt8.toNat_ofNat']
  omega

/-- What a call that gives up leaves: a place, an error's number. -/
def refusedAt (p e : Int) : List PanicEntry := [{ v := .iface 74 (.agg #[.int .i64 p, .int .i64 e]), recovered := false }]

/-- comment: how many bytes a comment has; it gives up where it does not end. -/
def CommentPost (at_ : Int) (o : Option Nat) (w : World) (e : Ending) (w' : World) : Prop :=
  match o with
  | some n => e = .returned (.int .i64 ((n + 2 : Nat))) ∧ w = w'
  | none => e = .panicked (refusedAt at_ 240) ∧ w = w'

set_option maxHeartbeats 1000000 in
theorem comment_any (b : Nat) (s r : ByteArray) (at_ : Int) (w : World) (hb : w.heap[b]? = some (.cells #[.string s, .int .i64 at_] 78 (0, 0))) (hs : r.size ≤ maxLen) :
    Calls Tryz.prog 72 #[.pointer (some ⟨b, 0, none⟩), .string r] w
      (CommentPost at_ (endLen (r.data.toList.drop 2)) w) := by
  unfold maxLen at hs
  have hc0 : w.cell? ⟨b, 1, none⟩ = some (.int .i64 at_) := (two_cells hb).2.1
  obtain ⟨o, ho⟩ : ∃ o, o = endLen (r.data.toList.drop 2) := ⟨_, rfl⟩
  rw [← ho]
  have HO := Lib.hid ho
  clear hb ho
  go_enter Tryz.func72, Tryz.ntmps72
  go_wp2_with fail
  go_step3
  go_wp2_with fail
  go_step3
  go_wp2_with fail
  go_wp2_with fail
  go_loopg [5, 6] (r.size) (fun g v5 v wr => ∃ k : Nat, w = wr ∧ v5 = .int .i64 0 ∧ v = .int .i64 k ∧ 2 ≤ k ∧ k ≤ 9223372036854775806 ∧ o = (endLen (r.data.toList.drop k)).map (· + (k - 2)) ∧ g = r.size + 2 - k)
  case atStart => exact ⟨2, rfl, rfl, rfl, by omega, by omega, by rw [HO.out]; simp, by omega⟩
  case round =>
    obtain ⟨k, rfl, rfl, rfl, hk, hk2, ho, hg⟩ := hrel
    have HK := Lib.hid ho
    have HG := Lib.hid hg
    clear ho hg HO
    by_cases hlt : k + 1 < r.size
    · have hd := Lib.hid (endLen_step r k hlt)
      go_wp2_with fail
      · have h1 : (r[k].toNat : Int) = 42 := by assumption
        have h2 : ((r[k + 1].toNat : Int) == 47) = true := by assumption
        have e1 : r[k] = 42 := UInt8.toNat_inj.1 (by show r[k].toNat = 42; omega)
        have e2 : r[k + 1] = 47 := UInt8.toNat_inj.1 (by have := eq_of_beq h2; show r[k + 1].toNat = 47; omega)
        rw [Exit.noGoto_ret]
        go_ret
        have e : o = some k := by rw [HK.out, hd.out, if_pos ⟨e1, e2⟩]; simp; omega
        rw [e]
        exact ⟨ret_i (by omega), rfl⟩
      · have h2 : ((r[k + 1].toNat : Int) == 47) = false := by assumption
        go_roundg (r.size + 2 - (k + 1))
        case measure => rw [HG.out]; omega
        case rel =>
          refine ⟨k + 1, rfl, rfl, by go_num, by omega, by omega, ?_, rfl⟩
          rw [HK.out, hd.out, if_neg (fun h => by rw [h.2] at h2; simp at h2), Option.map_map]
          congr 1; funext x; simp; omega
      · have h2 : ¬ (r[k].toNat : Int) = 42 := by assumption
        go_roundg (r.size + 2 - (k + 1))
        case measure => rw [HG.out]; omega
        case rel =>
          refine ⟨k + 1, rfl, rfl, by go_num, by omega, by omega, ?_, rfl⟩
          rw [HK.out, hd.out, if_neg (fun h => by rw [h.1] at h2; simp at h2), Option.map_map]
          congr 1; funext x; simp; omega
    · have hd := Lib.hid (endLen_end r k (by omega))
      go_wp2_with fail
      have e : o = none := by rw [HK.out, hd.out]; rfl
      rw [e]
      exact ⟨rfl, rfl, rfl⟩
end Go.Proofs.YtbdheihjnkfpiaaGreatDoor
