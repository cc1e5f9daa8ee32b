import Derived.Test.YtimglodailhkaaaGreatHx
import Derived.Test.YtimglodailhkaaaGreatShelf
import Derived.Lib.AppendIntMem
namespace Go.Proofs.YtimglodailhkaaaGreat
open Go Go.RowKit
abbrev Tab (w : World) : Prop := Lib.TabIs Tryz.prog w "internal/strconv.uint64pow10" .u64 Lib.pow10Tab
theorem tabIs_below {w W : World} (h : Lib.TabIs Tryz.prog w "internal/strconv.uint64pow10" .u64 Lib.pow10Tab) (hb : Below w.heap.size w W) : Lib.TabIs Tryz.prog W "internal/strconv.uint64pow10" .u64 Lib.pow10Tab := by
  unfold Lib.TabIs World.var? at *
  cases hg : Tryz.prog.globalNamed "internal/strconv.uint64pow10" with
  | none => simp [hg] at h
  | some g =>
    simp only [hg, Option.bind_some] at h ⊢
    have hlt : g < w.heap.size := by
      rcases Nat.lt_or_ge g w.heap.size with h' | h'
      · exact h'
      · rw [Array.getElem?_eq_none h'] at h; simp at h
    rw [hb.block g hlt]
    exact h
/-- Numbers that are told without the table. -/
def smallN (n : Int) : Prop := 0 ≤ n ∧ n < 100
/-- The table, if this number asks it. -/
def TabN (n : Int) (w : World) : Prop := ¬ smallN n → Tab w
theorem itoa_nat (i : Nat) : Lib.itoa (i : Int) = Lib.decDigits i := by
  unfold Lib.itoa
  rw [if_neg (by omega), Int.toNat_natCast]
theorem itoa_any (n : Int) (w : World) (h0 : -9223372036854775808 ≤ n) (h1 : n ≤ 9223372036854775807) (ht : TabN n w) :
    Calls Tryz.prog 111 #[.int .i64 n] w fun e w' => e = .returned (.string ⟨(Lib.itoa n).toArray⟩) ∧ Fr No w w' :=
  by
  by_cases hs : smallN n
  · obtain ⟨i, rfl⟩ := Int.eq_ofNat_of_zero_le hs.1
    refine (Any.strconv_Itoa_small { Tryz.laysM171 with } i (by have := hs.2; omega) w).mono ?_
    rintro e w' ⟨he, hw⟩
    exact ⟨by rw [he, itoa_nat], by rw [hw]; exact Fr.refl _ _⟩
  · exact (Tryz.strconv_Itoa n h0 h1 w (ht hs)).mono fun e w' ⟨he, k, os, hw⟩ => ⟨he, by rw [hw]; exact Fr.ofBelow (Lib.below_grow _ w (Nat.le_refl _) k os)⟩
theorem Fr.tab {w W : World} (h : Fr No w W) (ht : Tab w) : Tab W := tabIs_below ht h.toBelow
theorem TabN.below {n : Int} {w W : World} (ht : TabN n w) (h : Below w.heap.size w W) : TabN n W := fun hs => tabIs_below (ht hs) h
theorem TabN.fr {n : Int} {w W : World} (ht : TabN n w) (h : Fr No w W) : TabN n W := ht.below h.toBelow
end Go.Proofs.YtimglodailhkaaaGreat
