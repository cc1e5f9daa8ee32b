/-
  strconv.ParseUint at each base and size that the lexer asks, and of no byte.
-/
import Derived.Test.YtbdheihjnkfpiaaGreatDoorWe
namespace Go.Proofs.YtbdheihjnkfpiaaGreatDoor
open Go Go.RowKit
set_option maxRecDepth 100000 in
set_option maxHeartbeats 2000000 in
theorem puIn_empty (base bits : Int) (w : World) :
    Calls Tryz.prog 100 #[.string ⟨#[]⟩, .int .i64 base, .int .i64 bits] w fun e w' => e = Ending.returned (.tuple #[.int .u64 0, .iface 141 (.int .i64 2)]) ∧ w = w' := by
  have hemp : (ByteArray.mk #[]).toList.isEmpty = true := by
    rw [← decide_eq_emptyBytes]; rfl
  go_enter Tryz.func100, Tryz.ntmps100
  go_wp2
  go_ret2
  exact ⟨rfl, rfl⟩
/-- strconv.ParseUint of no byte: some error. -/
def PuBad (w : World) (e : Ending) (w' : World) : Prop := Fr No w w' ∧ ∃ p, e = Ending.returned (.tuple #[.int .u64 0, .iface 144 p])
set_option maxHeartbeats 2000000 in
theorem parse_empty (base bits : Int) (w : World) (hv : Vars w) : Calls Tryz.prog 88 #[.string ⟨#[]⟩, .int .i64 base, .int .i64 bits] w (PuBad w) := by
  have HP : Hid (∀ w' p, Fr No w w' → PuBad w (.returned (.tuple #[.int .u64 0, .iface 144 p])) w') := fun w' p hf => ⟨hf, p, rfl⟩
  obtain ⟨v, hv, hev⟩ := hv.2
  go_enter Tryz.func88, Tryz.ntmps88
  go_wp2_with (first | (go_at_call 100; refine (puIn_empty _ _ _).mono ?_; rintro e w1 ⟨rfl, rfl⟩) | (go_at_call 101; refine (Tryz.strconv_toError_syntax _ _ _ _ v _ (by decide) hv hev).mono ?_; rintro e w2 ⟨N, rfl, _, _, hb⟩))
  go_ret2
  exact HP.out _ _ (Fr.ofBelow (by assumption))
theorem parse_8_64 (t : ByteArray) (w : World) (hv : Vars w) (hne : t.size ≠ 0) (hl : t.size ≤ 2147483648) (hall : ∀ c ∈ t.data.toList, isEight c = true) : Calls Tryz.prog 88 #[.string t, .int .i64 8, .int .i64 64] w (PuPost 18446744073709551616 (valOf 8 t.data.toList) w) :=
  parse_of t 8 64 _ _ w hv hl (pu_8_64 t hne hl hall)
theorem parse_10_64 (t : ByteArray) (w : World) (hv : Vars w) (hne : t.size ≠ 0) (hl : t.size ≤ 2147483648) (hall : ∀ c ∈ t.data.toList, isTen c = true) : Calls Tryz.prog 88 #[.string t, .int .i64 10, .int .i64 64] w (PuPost 18446744073709551616 (valOf 10 t.data.toList) w) :=
  parse_of t 10 64 _ _ w hv hl (pu_10_64 t hne hl hall)
theorem parse_16_64 (t : ByteArray) (w : World) (hv : Vars w) (hne : t.size ≠ 0) (hl : t.size ≤ 2147483648) (hall : ∀ c ∈ t.data.toList, isHex c = true) : Calls Tryz.prog 88 #[.string t, .int .i64 16, .int .i64 64] w (PuPost 18446744073709551616 (valOf 16 t.data.toList) w) :=
  parse_of t 16 64 _ _ w hv hl (pu_16_64 t hne hl hall)
theorem parse_8_8 (t : ByteArray) (w : World) (hv : Vars w) (hne : t.size ≠ 0) (hl : t.size ≤ 2147483648) (hall : ∀ c ∈ t.data.toList, isEight c = true) : Calls Tryz.prog 88 #[.string t, .int .i64 8, .int .i64 8] w (PuPost 256 (valOf 8 t.data.toList) w) :=
  parse_of t 8 8 _ _ w hv hl (pu_8_8 t hne hl hall)
theorem parse_16_8 (t : ByteArray) (w : World) (hv : Vars w) (hne : t.size ≠ 0) (hl : t.size ≤ 2147483648) (hall : ∀ c ∈ t.data.toList, isHex c = true) : Calls Tryz.prog 88 #[.string t, .int .i64 16, .int .i64 8] w (PuPost 256 (valOf 16 t.data.toList) w) :=
  parse_of t 16 8 _ _ w hv hl (pu_16_8 t hne hl hall)
end Go.Proofs.YtbdheihjnkfpiaaGreatDoor
