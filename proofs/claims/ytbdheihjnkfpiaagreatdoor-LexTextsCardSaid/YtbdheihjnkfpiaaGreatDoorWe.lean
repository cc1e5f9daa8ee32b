/-
  strconv.ParseUint walked over the inner one: the value, or some error.
-/
import Derived.Test.YtbdheihjnkfpiaaGreatDoorPu
namespace Go.Proofs.YtbdheihjnkfpiaaGreatDoor
open Go Go.RowKit

/-- The two variables of strconv's that its errors are read from hold errors. -/
def Vars (w : World) : Prop :=
  (∃ v, w.cell? ⟨5, 0, none⟩ = some v ∧ (v = .nilIface ∨ ∃ te pe, v = .iface te pe)) ∧
  (∃ v, w.cell? ⟨4, 0, none⟩ = some v ∧ (v = .nilIface ∨ ∃ te pe, v = .iface te pe))
theorem Vars.kept {X : Nat → Prop} {w w' : World} (h : Vars w) (hf : Fr X w w') (hx : ∀ k, k < 8 → ¬ X k) : Vars w' := by
  obtain ⟨⟨v, hv, h1⟩, ⟨u, hu, h2⟩⟩ := h
  refine ⟨⟨v, ?_, h1⟩, ⟨u, ?_, h2⟩⟩
  · rw [hf.cell (block_lt_of_cell hv) (hx _ (by decide))]; exact hv
  · rw [hf.cell (block_lt_of_cell hu) (hx _ (by decide))]; exact hu
theorem Vars.kept_no {w w' : World} (h : Vars w) (hf : Fr No w w') : Vars w' := h.kept hf (fun _ _ h => h)
theorem bytesWorld_fr (w : World) (t : ByteArray) : Fr No w (Lib.bytesWorld w 5 t) := by
  exact ((Fr.refl No w).drew.alloc _).freeze _ _ (Nat.le_refl _)

/-- What strconv.ParseUint answers: the value and no error, or some error. -/
def PuPost (lim v : Nat) (w : World) (e : Ending) (w' : World) : Prop :=
  Fr No w w' ∧ if v < lim then e = .returned (.tuple #[.int .u64 v, .nilIface]) else ∃ p, e = .returned (.tuple #[.int .u64 ((lim : Int) - 1), .iface 144 p])
set_option maxHeartbeats 2000000 in
theorem parse_of (t : ByteArray) (base bits lim v : Nat) (w : World) (hv : Vars w) (hl : t.size ≤ 2147483648)
    (H : ∀ w, Calls Tryz.prog 100 #[.string t, .int .i64 base, .int .i64 bits] w fun e w' => e = puVal lim v ∧ Lib.bytesWorld w 5 t = w') :
    Calls Tryz.prog 88 #[.string t, .int .i64 base, .int .i64 bits] w (PuPost lim v w) := by
  have H1 := Lib.hid H
  clear H
  by_cases hlt : v < lim
  · have H2 := fun w => (H1.out w).mono fun e w' ⟨he, hw⟩ => (show e = Ending.returned (.tuple #[.int .u64 v, .nilIface]) ∧ Fr No w w' from ⟨by rw [he]; unfold puVal; rw [if_pos hlt], hw ▸ bytesWorld_fr w t⟩)
    have H3 := Lib.hid H2
    have HP : Hid (∀ w', Fr No w w' → PuPost lim v w (.returned (.tuple #[.int .u64 v, .nilIface])) w') := fun w' hf => ⟨hf, by rw [if_pos hlt]⟩
    clear H2
    go_enter Tryz.func88, Tryz.ntmps88
    go_wp2_with (go_at_call 100; refine (H3.out _).mono ?_; rintro e w1 ⟨rfl, hf⟩)
    go_ret2
    exact HP.out _ (by assumption)
  · have H2 := fun w => (H1.out w).mono fun e w' ⟨he, hw⟩ => (show e = Ending.returned (.tuple #[.int .u64 ((lim : Int) - 1), .iface 141 (.int .i64 1)]) ∧ Fr No w w' from ⟨by rw [he]; unfold puVal; rw [if_neg hlt], hw ▸ bytesWorld_fr w t⟩)
    have H3 := Lib.hid H2
    have HP : Hid (∀ w' p, Fr No w w' → PuPost lim v w (.returned (.tuple #[.int .u64 ((lim : Int) - 1), .iface 144 p])) w') := fun w' p hf => ⟨hf, by rw [if_neg hlt]; exact ⟨p, rfl⟩⟩
    clear H2
    have HV := Lib.hid hv
    clear hv
    go_enter Tryz.func88, Tryz.ntmps88
    go_wp2_with (go_at_call 100; refine (H3.out _).mono ?_; rintro e w1 ⟨rfl, hf⟩)
    obtain ⟨v, hv, hev⟩ := (HV.out.kept_no hf).1
    have HF := Lib.hid hf
    clear hf
    go_wp2_with (go_at_call 101; refine (Tryz.strconv_toError_range _ _ _ _ v _ (by omega) hv hev).mono ?_; rintro e w2 ⟨N, rfl, _, _, hb⟩)
    go_ret2
    exact HP.out _ _ (HF.out.trans_no (Fr.ofBelow (by assumption)))
end Go.Proofs.YtbdheihjnkfpiaaGreatDoor
