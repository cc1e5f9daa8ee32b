/-
  LexQuotes walked: it is true.
-/
import Derived.Test.YtinodapgldbljaaGreatDoorWw
import Derived.Test.YtinodapgldbljaaGreatDoorVl
import Derived.Test.YtinodapgldbljaaGreatDoorRl
import Derived.Test.YtinodapgldbljaaGreatDoorRq
namespace Go.Proofs.YtinodapgldbljaaGreatDoor
open Go Go.RowKit
set_option maxRecDepth 100000 in
set_option maxHeartbeats 2000000 in
/-- LexQuotes is true. -/
theorem lexQuotes_any (s : ByteArray) (p : Int) (w : World) (hV : Vars w) (h16 : 8 ≤ w.heap.size) (htab : Lib.TabIs Tryz.prog w "internal/strconv.uint64pow10" .u64 Lib.pow10Tab) :
    Calls Tryz.prog 5 #[.string s, .int .i64 p] w fun e w' => e = .returned (.bool true) ∧ Fr No w w' := by
  have HV := Lib.hid (And.intro hV htab)
  clear hV htab
  by_cases hs : 5000 < s.size
  · have hs2 : (5000 : Int) < (s.size : Int) := by omega
    go_enter Tryz.func5, Tryz.ntmps5
    go_wp2_with (go_at_call 6; refine (works_any _ HV.out.1 h16 HV.out.2).mono ?_; rintro e w' ⟨rfl, hf⟩)
    go_ret
    exact ⟨rfl, hf⟩
  · have hs2 : ¬ (5000 : Int) < (s.size : Int) := by omega
    have Q1 := fun wx => quote_any s wx (by omega)
    have Q2 := fun wx => rquote_any s wx (by omega)
    have L1 := fun wx => line_any s p wx (by omega)
    have L2 := fun wx => rline_any s p wx (by omega)
    generalize (⟨(quote s.data.toList).toArray⟩ : ByteArray) = q at Q1 Q2
    generalize line14 s.data.toList p = m at L1 L2
    have Q1 := Lib.hid Q1
    have Q2 := Lib.hid Q2
    have L1 := Lib.hid L1
    have L2 := Lib.hid L2
    go_enter Tryz.func5, Tryz.ntmps5
    go_wp2_with (first
      | (go_at_call 17; refine (Q1.out _).mono ?_; rintro e w2 ⟨rfl, hf2⟩; have HF2 := Lib.hid hf2; clear hf2)
      | (go_at_call 18; refine (Q2.out _).mono ?_; rintro e w3 ⟨rfl, hf3⟩; have HF3 := Lib.hid (HF2.out.trans_same hf3); clear hf3)
      | (go_at_call 19; refine (L1.out _).mono ?_; rintro e w4 ⟨rfl, rfl⟩)
      | (go_at_call 20; refine (L2.out _).mono ?_; rintro e w5 ⟨rfl, rfl⟩)
      | (go_at_call 6; go_must (refine (works_any _ (by exact HV.out.1.kept_no HF3.out) (by have := HF3.out.size; omega) (by exact HF3.out.tab HV.out.2)).mono ?_); rintro e w6 ⟨rfl, hf6⟩))
    go_ret
    exact ⟨rfl, HF3.out.trans_same hf6⟩
end Go.Proofs.YtinodapgldbljaaGreatDoor
