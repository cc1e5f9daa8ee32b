/-
  The document's answer walked: bytes in quotes.
-/
import Derived.Test.YtbdheihjnkfpiaaGreatDoorKit
import Derived.Test.YtbdheihjnkfpiaaGreatDoorPs
import Derived.Test.YtbdheihjnkfpiaaGreatDoorQk
import Derived.Test.YtbdheihjnkfpiaaGreatDoorProg
import Derived.Deep.LoopGhost
import Derived.Deep.DeepCutAuto
import Derived.Deep.DeepMust
namespace Go.Proofs.YtbdheihjnkfpiaaGreatDoor
open Go Go.RowKit
theorem str_app (x : Bytes) (y : Bytes) : (⟨x.toArray⟩ : ByteArray) ++ ⟨y.toArray⟩ = ⟨(x ++ y).toArray⟩ := ByteArray.mk_append_mk x y
/-- How far the quoted text has come. -/
def QAcc (s : ByteArray) (k : Nat) (o : ByteArray) : Prop := o = ⟨(34 :: (s.data.toList.take k).flatMap quoteByte).toArray⟩
theorem QAcc.step {s : ByteArray} {k : Nat} {o : ByteArray} (h : QAcc s k o) (hk : k < s.size) {c : UInt8} (hc : s[k] = c) {x : Bytes} (hx : quoteByte c = x) : QAcc s (k + 1) (o ++ ⟨x.toArray⟩) := by
  unfold QAcc at h ⊢
  rw [h, str_app, quote_step _ _ (by simpa using hk)]
  subst hc
  rw [← hx]
  rfl
theorem one_byte (s : ByteArray) (k : Nat) (hk : k < s.size) : s.extract k (k + 1) = ⟨#[s[k]]⟩ := by
  apply ByteArray.ext
  rw [ByteArray.data_extract]
  have hk' : k < s.data.size := hk
  apply Array.ext
  · simp; omega
  · intro i h1 h2
    have : i = 0 := by simp at h2; omega
    subst this
    simp
    rfl
theorem ne_byte {c d : UInt8} (h : c ≠ d) : ((c.toNat : Int) == (d.toNat : Int)) = false := beq_eq_false_iff_ne.2 fun e => h (UInt8.toNat_inj.1 (by omega))
theorem one_size (a : UInt8) : (⟨#[a]⟩ : ByteArray).size = 1 := rfl
theorem two_size (a b : UInt8) : (⟨#[a, b]⟩ : ByteArray).size = 2 := rfl
theorem three_size (a b c : UInt8) : (⟨#[a, b, c]⟩ : ByteArray).size = 3 := rfl
theorem conv3 (w : World) (c : UInt8) :
    (convert 56 9 (.slice (some ⟨w.heap.size, 0, none⟩) 3 3)).run Tryz.prog (w.alloc (.cells #[.int .u8 (48 + (c.toNat : Int) / 64), .int .u8 (48 + (c.toNat : Int) / 8 % 8), .int .u8 (48 + (c.toNat : Int) % 8)] 5)) =
      .ok (.string ⟨#[UInt8.ofNat (48 + c.toNat / 64), UInt8.ofNat (48 + c.toNat / 8 % 8), UInt8.ofNat (48 + c.toNat % 8)]⟩) (w.alloc (.cells #[.int .u8 (48 + (c.toNat : Int) / 64), .int .u8 (48 + (c.toNat : Int) / 8 % 8), .int .u8 (48 + (c.toNat : Int) % 8)] 5)) := by
  have hc := c.toNat_lt
  have e1 : ((UInt8.ofNat (48 + c.toNat / 64)).toNat : Int) = 48 + (c.toNat : Int) / 64 := by rw [UInt8.toNat_ofNat']; omega
  have e2 : ((UInt8.ofNat (48 + c.toNat / 8 % 8)).toNat : Int) = 48 + (c.toNat : Int) / 8 % 8 := by rw [UInt8.toNat_ofNat']; omega
  have e3 : ((UInt8.ofNat (48 + c.toNat % 8)).toNat : Int) = 48 + (c.toNat : Int) % 8 := by rw [UInt8.toNat_ofNat']; omega
  rw [← e1, ← e2, ← e3]
  refine run_convert_bytes_back (P := Tryz.prog) _ _ _ 5 ⟨w.heap.size, 0, none⟩ 3 [_, _, _] Tryz.underlying56 Tryz.underlying5 Tryz.underlying9 fun j hj => ?_
  have hadd : (⟨w.heap.size, 0, none⟩ : Addr).add j = ⟨w.heap.size, j, none⟩ := by unfold Addr.add; split <;> simp_all
  rw [hadd]
  unfold World.cell?
  rw [heap_alloc_new]
  match j, hj with
  | 0, _ => rfl
  | 1, _ => rfl
  | 2, _ => rfl
set_option maxRecDepth 100000 in
set_option maxHeartbeats 4000000 in
theorem rquote_any (s : ByteArray) (w : World) (hs : s.size ≤ 1000000000) :
    Calls Tryz.prog 18 #[.string s] w fun e w' => e = .returned (.string ⟨(quote s.data.toList).toArray⟩) ∧ Fr No w w' := by
  go_enter Tryz.func18, Tryz.ntmps18
  go_wp2_with fail
  go_loopg [3, 4] s.size (fun g vo vi wr => ∃ (k : Nat) (o : ByteArray), vo = .string o ∧ vi = .int .i64 k ∧ k ≤ s.size ∧ o.size ≤ 4 * k + 1 ∧ Hid (QAcc s k o) ∧ Fr No w wr ∧ g + k = s.size)
  case atStart => exact ⟨0, ⟨#[34]⟩, rfl, rfl, by omega, by decide, Lib.hid rfl, Fr.refl _ _, by omega⟩
  case round =>
    obtain ⟨k, o, rfl, rfl, hk, ho, HA, hfr, hg⟩ := hrel
    have HF := Lib.hid hfr
    clear hfr
    by_cases hlt : k < s.size
    · have hlt2 : (k : Int) < (s.size : Int) := by omega
      obtain ⟨c, hc⟩ : ∃ c, s[k] = c := ⟨_, rfl⟩
      obtain ⟨r, hr⟩ : ∃ r, s.extract k (k + 1) = r := ⟨_, rfl⟩
      have hr1 : r = ⟨#[c]⟩ := by rw [← hr, one_byte s k hlt, hc]
      have hrs : r.size = 1 := by rw [hr1]; rfl
      have HS := Lib.hid (fun (x : Bytes) (hx : quoteByte c = x) => HA.out.step hlt hc hx)
      have HR := Lib.hid hr1
      clear hr1
      by_cases h1 : c = 10
      · have h1b : ((c.toNat : Int) == 10) = true := by rw [h1]; rfl
        have HQ := Lib.hid (HS.out [92, 110] (by unfold quoteByte; rw [if_pos h1]))
        clear h1
        go_wp2_with fail
        go_roundg (gk - 1)
        case measure => omega
        case rel => exact ⟨k + 1, _, rfl, by go_num, by omega, by rw [ByteArray.size_append', two_size]; omega, HQ, HF.out, by omega⟩
      have h1b : ((c.toNat : Int) == 10) = false := ne_byte (d := 10) h1
      by_cases h2 : c = 13
      · have h2b : ((c.toNat : Int) == 13) = true := by rw [h2]; rfl
        have HQ := Lib.hid (HS.out [92, 114] (by unfold quoteByte; rw [if_neg h1, if_pos h2]))
        clear h1 h2
        go_wp2_with fail
        go_roundg (gk - 1)
        case measure => omega
        case rel => exact ⟨k + 1, _, rfl, by go_num, by omega, by rw [ByteArray.size_append', two_size]; omega, HQ, HF.out, by omega⟩
      have h2b : ((c.toNat : Int) == 13) = false := ne_byte (d := 13) h2
      by_cases h3 : c = 9
      · have h3b : ((c.toNat : Int) == 9) = true := by rw [h3]; rfl
        have HQ := Lib.hid (HS.out [92, 116] (by unfold quoteByte; rw [if_neg h1, if_neg h2, if_pos h3]))
        clear h1 h2 h3
        go_wp2_with fail
        go_roundg (gk - 1)
        case measure => omega
        case rel => exact ⟨k + 1, _, rfl, by go_num, by omega, by rw [ByteArray.size_append', two_size]; omega, HQ, HF.out, by omega⟩
      have h3b : ((c.toNat : Int) == 9) = false := ne_byte (d := 9) h3
      by_cases h4 : c = 34
      · have h4b : ((c.toNat : Int) == 34) = true := by rw [h4]; rfl
        have HQ := Lib.hid (HS.out [92, 34] (by unfold quoteByte; rw [if_neg h1, if_neg h2, if_neg h3, if_pos h4]))
        have HQ2 : Hid (QAcc s (k + 1) (o ++ ⟨#[92]⟩ ++ r)) := Lib.hid (by rw [HR.out, h4, ByteArray.append_assoc]; exact HQ.out)
        clear h1 h2 h3 h4
        go_wp2_with fail
        go_roundg (gk - 1)
        case measure => omega
        case rel => exact ⟨k + 1, _, rfl, by go_num, by omega, by rw [ByteArray.size_append', ByteArray.size_append', hrs, one_size]; omega, HQ2, HF.out, by omega⟩
      have h4b : ((c.toNat : Int) == 34) = false := ne_byte (d := 34) h4
      by_cases h5 : c = 92
      · have h5b : ((c.toNat : Int) == 92) = true := by rw [h5]; rfl
        have HQ := Lib.hid (HS.out [92, 92] (by unfold quoteByte; rw [if_neg h1, if_neg h2, if_neg h3, if_neg h4, if_pos h5]))
        have HQ2 : Hid (QAcc s (k + 1) (o ++ ⟨#[92]⟩ ++ r)) := Lib.hid (by rw [HR.out, h5, ByteArray.append_assoc]; exact HQ.out)
        clear h1 h2 h3 h4 h5
        go_wp2_with fail
        go_roundg (gk - 1)
        case measure => omega
        case rel => exact ⟨k + 1, _, rfl, by go_num, by omega, by rw [ByteArray.size_append', ByteArray.size_append', hrs, one_size]; omega, HQ2, HF.out, by omega⟩
      have h5b : ((c.toNat : Int) == 92) = false := ne_byte (d := 92) h5
      by_cases h6 : 32 ≤ c.toNat ∧ c.toNat ≤ 126
      · have h6a : (32 : Int) ≤ (c.toNat : Int) := by omega
        have h6b : (c.toNat : Int) < 127 := by omega
        have HQ := Lib.hid (HS.out [c] (by unfold quoteByte; rw [if_neg h1, if_neg h2, if_neg h3, if_neg h4, if_neg h5, if_neg (by omega)]))
        have HQ2 : Hid (QAcc s (k + 1) (o ++ r)) := Lib.hid (by rw [HR.out]; exact HQ.out)
        clear h1 h2 h3 h4 h5 h6
        go_wp2_with fail
        go_roundg (gk - 1)
        case measure => omega
        case rel => exact ⟨k + 1, _, rfl, by go_num, by omega, by rw [ByteArray.size_append', hrs]; omega, HQ2, HF.out, by omega⟩
      have HQ := Lib.hid (HS.out _ (by unfold quoteByte; rw [if_neg h1, if_neg h2, if_neg h3, if_neg h4, if_neg h5, if_pos (by omega)]))
      clear h1 h2 h3 h4 h5
      have h6b : ¬ ((32 : Int) ≤ (c.toNat : Int)) ∨ ((32 : Int) ≤ (c.toNat : Int) ∧ ¬ ((c.toNat : Int) < 127)) := by omega
      clear h6
      have hcv := conv3 wr c
      have cb1 : (c.toNat : Int) < 256 := by have := c.toNat_lt; omega
      generalize UInt8.ofNat (48 + c.toNat / 64) = d1, UInt8.ofNat (48 + c.toNat / 8 % 8) = d2, UInt8.ofNat (48 + c.toNat % 8) = d3 at hcv HQ
      rcases h6b with h6b | ⟨h6a, h6b⟩
      · go_wp2_with fail
        go_roundg (gk - 1)
        case measure => omega
        case rel => exact ⟨k + 1, _, rfl, by go_num, by omega, by rw [ByteArray.size_append', ByteArray.size_append', one_size, three_size]; omega, Lib.hid (by rw [ByteArray.append_assoc]; exact HQ.out), HF.out.alloc _, by omega⟩
      · go_wp2_with fail
        go_roundg (gk - 1)
        case measure => omega
        case rel => exact ⟨k + 1, _, rfl, by go_num, by omega, by rw [ByteArray.size_append', ByteArray.size_append', one_size, three_size]; omega, Lib.hid (by rw [ByteArray.append_assoc]; exact HQ.out), HF.out.alloc _, by omega⟩
    · have hlt2 : ¬ (k : Int) < (s.size : Int) := by omega
      obtain rfl : k = s.size := by omega
      have HE := Lib.hid (show o ++ ⟨#[34]⟩ = (⟨(quote s.data.toList).toArray⟩ : ByteArray) by
        have := HA.out; unfold QAcc at this
        rw [this, List.take_of_length_le (by simp), show (⟨#[34]⟩ : ByteArray) = ⟨[34].toArray⟩ from rfl, str_app]; rfl)
      go_wp2_with fail
      go_ret
      exact ⟨congrArg (fun x => Ending.returned (.string x)) HE.out, HF.out⟩
end Go.Proofs.YtbdheihjnkfpiaaGreatDoor
