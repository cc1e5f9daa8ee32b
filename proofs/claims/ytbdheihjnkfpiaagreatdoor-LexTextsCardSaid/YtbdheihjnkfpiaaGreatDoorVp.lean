/-
  Print's parts walked: the predicate, the builder's state, what may not be.
-/
import Derived.Test.YtbdheihjnkfpiaaGreatDoorVm
import Derived.Test.YtbdheihjnkfpiaaGreatDoorVb
import Derived.Test.YtbdheihjnkfpiaaGreatDoorVf
import Derived.Test.YtbdheihjnkfpiaaGreatDoorVq
import Derived.Test.YtbdheihjnkfpiaaGreatDoorVi
namespace Go.Proofs.YtbdheihjnkfpiaaGreatDoor
open Go Go.RowKit
set_option maxHeartbeats 1000000 in
theorem print1_any (t : PT) (w : World) :
    Calls Tryz.prog 28 #[ptV t] w fun e w' => e = .returned (.bool (!mayBe t)) ∧ Fr No w w' := by
  have HM := Lib.hid (fun wx => may_any t wx)
  have HF := Lib.hid ((Fr.refl No w).alloc (.cells #[.int .i64 t.kind, .int .i64 t.place, .string ⟨t.text.toArray⟩, .int .u64 t.num] 33))
  unfold ptV ptCells at HM ⊢
  generalize mayBe t = R at HM ⊢
  go_enter Tryz.func28, Tryz.ntmps28
  go_wp2_with (go_at_call 29; refine (HM.out _).mono ?_; rintro e w' ⟨rfl, hf⟩)
  go_ret
  exact ⟨rfl, HF.out.trans_same hf⟩
theorem print_pred (w : World) : PredT 28 (fun t => !mayBe t) w := fun W t _ hb =>
  (print1_any t W).mono fun _ _ ⟨he, hf⟩ => ⟨he, hb.trans (hf.toBelow.mono hb.size)⟩
theorem IsB.new (w : World) : IsB w.heap.size w.heap.size [] (w.alloc (.cells #[.pointer none, .slice none 0 0] 58)) :=
  .inl ⟨Nat.le_refl _, .slice none 0 0, heap_alloc_new w _, World.ownsRow_nil _ _ _ _, by simp [Value.ownBlock]⟩
theorem IsB.kept {B b : Nat} {l : Bytes} {w w' : World} (h : IsB B b l w) (hf : Fr No w w') : IsB B b l w' := by
  rcases h with ⟨hB, v, hb, ho, hn⟩ | ⟨hB, v, hb, ho, hn⟩
  · exact .inl ⟨hB, v, hf.at hb (fun h => h), hf.owns ho (fun _ _ h => h), hn⟩
  · exact .inr ⟨hB, v, hf.at hb (fun h => h), hf.owns ho (fun _ _ h => h), hn⟩
theorem IsB.lt {B b : Nat} {l : Bytes} {w : World} (h : IsB B b l w) : B ≤ b ∧ b < w.heap.size := by
  rcases h with ⟨hB, v, hb, ho, hn⟩ | ⟨hB, v, hb, ho, hn⟩
  · exact ⟨hB, lt_of_block hb⟩
  · exact ⟨hB, lt_of_block hb⟩
theorem len_any (B b : Nat) (l : Bytes) (w : World) (h : IsB B b l w) :
    Calls Tryz.prog 33 #[.pointer (some ⟨b, 0, none⟩)] w fun e w' => e = .returned (.int .i64 l.length) ∧ w' = w :=
  (Tryz.Builder_Len B b _ w h).mono fun _ _ ⟨he, hw⟩ => ⟨by rw [he]; simp [Lib.byteCells], hw⟩
theorem string_any (B b : Nat) (l : Bytes) (w : World) (h : IsB B b l w) (hBw : B ≤ w.heap.size) :
    Calls Tryz.prog 34 #[.pointer (some ⟨b, 0, none⟩)] w fun e w' => e = .returned (.string ⟨l.toArray⟩) ∧ Below B w w' :=
  Tryz.Builder_String_any B b l w h hBw
/-- A token of a row of tokens. -/
theorem Toks.cells {w : World} {a : Option Addr} {l : List PT} (h : Toks w a l) (k : Nat) (hk : k < l.length) : ∃ b off, a = some ⟨b, off, none⟩ ∧ b < w.heap.size ∧ w.cell? ⟨b, off + k * 4, none⟩ = some (.int .i64 l[k].kind) ∧ w.cell? ⟨b, off + k * 4 + 1, none⟩ = some (.int .i64 l[k].place) ∧ w.cell? ⟨b, off + k * 4 + 2, none⟩ = some (.string ⟨l[k].text.toArray⟩) ∧ w.cell? ⟨b, off + k * 4 + 3, none⟩ = some (.int .u64 l[k].num) := by
  rcases h with h0 | ⟨b, off, rfl, hb, hc⟩
  · subst h0; simp at hk
  · exact ⟨b, off, rfl, hb, hc k hk 0 _ rfl, hc k hk 1 _ rfl, hc k hk 2 _ rfl, hc k hk 3 _ rfl⟩
theorem Toks.below {w w' : World} {a : Option Addr} {l : List PT} (h : Toks w a l) (hb : Below w.heap.size w w') : Toks w' a l := by
  rcases h with h | ⟨b, off, e, hl, hc⟩
  · exact .inl h
  · exact .inr ⟨b, off, e, Nat.lt_of_lt_of_le hl hb.size, fun j h i v hi => (hb.cell (p := ⟨b, off + j * 4 + i, none⟩) hl).trans (hc j h i v hi)⟩
set_option maxRecDepth 100000 in
set_option maxHeartbeats 4000000 in
theorem print_bad (a : Option Addr) (cp : Nat) (l : List PT) (w : World) (hl : Toks w a l) (hbig : l.length ≤ 1000000000) (hnum : ∀ t ∈ l, t.num < 18446744073709551616) (hbad : l.any (fun t => !mayBe t) = true) :
    Calls Tryz.prog 13 #[.slice a l.length cp] w fun e w' => e = .returned (.tuple #[.string ⟨#[]⟩, .int .i64 2]) ∧ Fr No w w' := by
  have HC := containsFunc_any 28 (enters_of Tryz.func28 (by kernel_rfl) rfl) (fun t => !mayBe t) a cp l w (print_pred w) hl hbig hnum
  rw [hbad] at HC
  have HC := Lib.hid HC
  clear hl hnum hbad
  generalize l.length = n at HC ⊢
  go_enter Tryz.func13, Tryz.ntmps13
  go_wp2_with (go_at_call 27; refine HC.out.mono ?_; rintro e w' ⟨rfl, hf⟩)
  go_ret2
  exact ⟨rfl, Fr.ofBelow hf⟩
end Go.Proofs.YtbdheihjnkfpiaaGreatDoor
