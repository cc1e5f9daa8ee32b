/-
  The laws' 'works' walked: it is true.
-/
import Derived.Test.YtbdheihjnkfpiaaGreatDoorVr
import Derived.Test.YtbdheihjnkfpiaaGreatDoorSa
namespace Go.Proofs.YtbdheihjnkfpiaaGreatDoor
open Go Go.RowKit
theorem flat_at : ∀ (ts : List Tok) (j : Nat) (hj : j < ts.length) (i : Nat), i < 4 → (ts.flatMap tokCells)[j * 4 + i]? = (tokCells ts[j])[i]?
  | [], j, hj, _, _ => absurd hj (Nat.not_lt_zero _)
  | t :: ts, 0, _, i, hi => by
    rw [List.flatMap_cons, List.getElem?_append_left (by simp [tokCells]; omega)]; simp
  | t :: ts, j + 1, hj, i, hi => by
    have hl : (tokCells t).length = 4 := rfl
    rw [List.flatMap_cons, List.getElem?_append_right (by rw [hl]; omega), hl, show (j + 1) * 4 + i - 4 = j * 4 + i by omega, flat_at ts j (by simpa using hj) i hi]
    rfl
theorem OwnsT.toks {w : World} {base : Nat} {v : Value} {ts : List Tok} (h : OwnsT w base v ts) : ∃ a cp, v = .slice a ts.length cp ∧ Toks w a (ts.map Tok.pt) := by
  unfold OwnsT at h
  rcases h.2 with ⟨hv, hn⟩ | ⟨g, cap, cur, hv, hb, hg, hc, hm, hs, ht⟩
  · obtain rfl : ts = [] := List.eq_nil_of_length_eq_zero hn
    exact ⟨none, 0, hv, .inl rfl⟩
  · refine ⟨some ⟨g, 0, none⟩, cap, hv, .inr ⟨g, 0, rfl, lt_of_block hg, ?_⟩⟩
    intro j hj i x hx
    have hj' : j < ts.length := by simpa using hj
    have hlen : i < 4 := by
      have := (List.getElem?_eq_some_iff.1 hx).1
      simpa [ptCells] using this
    have h1 := World.ownsRow.cellAt (hv ▸ h) (j * 4 + i) (by omega)
    rw [Nat.zero_add, h1, flat_at ts j hj' i hlen]
    have e : (ts.map Tok.pt)[j] = ts[j].pt := by simp
    rw [e] at hx
    exact hx
set_option maxHeartbeats 1000000 in
theorem num_any (x : Int) (w : World) : Calls Tryz.prog 9 #[.int .i64 x] w fun e w' => e = .returned (.int .i64 x) ∧ w = w' := by
  go_enter Tryz.func9, Tryz.ntmps9
  go_wp2_with fail
  go_ret
  exact ⟨rfl, rfl⟩
set_option maxHeartbeats 1000000 in
theorem all_any (s : ByteArray) (w : World) : Calls Tryz.prog 11 #[.string s] w fun e w' => e = .returned (.func (.func 25) #[] #[.pointer (some ⟨w.heap.size, 0, none⟩)]) ∧ w.alloc (.cells #[.string s] 9) = w' := by
  have hmf : ∀ (fn : Fn) (first cap : Array Value) (w : World), (Instr.makeFunc fn first cap).run Tryz.prog w = .ok (.func fn first cap) w := fun _ _ _ _ => rfl
  go_enter Tryz.func11, Tryz.ntmps11
  go_wp2_with fail
  go_ret
  exact ⟨rfl, rfl⟩
theorem Fr.tab {w W : World} (h : Fr No w W) (ht : Lib.TabIs Tryz.prog w "internal/strconv.uint64pow10" .u64 Lib.pow10Tab) : Lib.TabIs Tryz.prog W "internal/strconv.uint64pow10" .u64 Lib.pow10Tab := tabIs_below ht h.toBelow
set_option maxRecDepth 100000 in
set_option maxHeartbeats 4000000 in
theorem works_any (w : World) (hV : Vars w) (h16 : 8 ≤ w.heap.size) (htab : Lib.TabIs Tryz.prog w "internal/strconv.uint64pow10" .u64 Lib.pow10Tab) :
    Calls Tryz.prog 6 #[] w fun e w' => e = .returned (.bool true) ∧ Fr No w w' := by
  have L1 := Lex_any ⟨#[97, 49, 61, 48, 120, 49, 70, 59, 47, 47, 120]⟩ w hV h16 (by decide)
  have L2 := fun wx hv h16 => Lex_any ⟨#[98, 32, 34, 97]⟩ wx hv h16 (by decide)
  unfold LexPost at L1 L2
  rw [show (⟨#[97, 49, 61, 48, 120, 49, 70, 59, 47, 47, 120]⟩ : ByteArray).data.toList = wText from rfl, works_lex14] at L1
  rw [show (⟨#[98, 32, 34, 97]⟩ : ByteArray).data.toList = [98, 32, 34, 97] from rfl, works_bad14] at L2
  have L1 := Lib.hid L1
  have L2 := Lib.hid L2
  have HV := Lib.hid (And.intro hV htab)
  clear hV htab
  go_enter Tryz.func6, Tryz.ntmps6
  go_wp2_with fail
  refine L1.out.mono ?_
  rintro e w1 ⟨v, rfl, ho, hf1⟩
  obtain ⟨a, cp, hv, ht⟩ := ho.toks
  rw [show wToks.length = 4 from rfl] at hv
  subst hv
  have HT := Lib.hid ht
  have HF1 := Lib.hid hf1
  have P1 : ∀ wx, Toks wx a (wToks.map Tok.pt) → Lib.TabIs Tryz.prog wx "internal/strconv.uint64pow10" .u64 Lib.pow10Tab → Calls Tryz.prog 13 #[.slice a 4 cp] wx fun e w' => e = .returned (.tuple #[.string ⟨#[97, 49, 32, 61, 32, 51, 49, 32, 59]⟩, .int .i64 0]) ∧ Fr No wx w' := fun wx h htab => by
    have h1 := print_any a cp (wToks.map Tok.pt) wx h (by decide) (by decide) htab (by
      have := (print14_ok works_print).2.1; unfold maxText at this; omega)
    rw [works_print] at h1
    exact h1
  have P1 := Lib.hid P1
  clear ht ho hf1
  go_wp2_with fail
  refine (P1.out _ (by exact HT.out) (by exact HF1.out.tab HV.out.2)).mono ?_
  rintro e w2 ⟨rfl, hf2⟩
  have HF2 := Lib.hid (HF1.out.trans_same hf2)
  have HT2 := Lib.hid (HT.out.below hf2.toBelow)
  clear hf2
  go_wp2_with fail
  refine (L2.out _ (by exact HV.out.1.kept_no HF2.out) (by have := HF2.out.size; omega)).mono ?_
  rintro e w3 ⟨v3, rfl, ho3, hf3⟩
  obtain ⟨a3, c3, hv3, _⟩ := ho3.toks
  subst hv3
  have HF3 := Lib.hid (HF2.out.trans_same hf3)
  obtain ⟨b, off, ha, hbw, d0, d1, d2, d3⟩ := (HT2.out.below hf3.toBelow).cells 2 (by decide)
  have d0 : w3.cell? ⟨b, off + 8, none⟩ = some (.int .i64 2) := d0
  have d1 : w3.cell? ⟨b, off + 8 + 1, none⟩ = some (.int .i64 3) := d1
  have d2 : w3.cell? ⟨b, off + 8 + 2, none⟩ = some (.string ⟨#[]⟩) := d2
  have d3 : w3.cell? ⟨b, off + 8 + 3, none⟩ = some (.int .u64 31) := d3
  subst ha
  clear hf3 ho3
  have hnn : ∀ (c : Array Value) (W : World), (binOp .neq 35 (.func (.func 25) #[] c) .nilFunc).run Tryz.prog W = .ok (.bool true) W := fun _ _ => by kernel_rfl
  go_wp2_with (first | (go_at_call 9; refine (num_any _ _).mono ?_; rintro e w4 ⟨rfl, rfl⟩) | (go_at_call 11; refine (all_any _ _).mono ?_; rintro e w4 ⟨rfl, rfl⟩))
  go_ret
  exact ⟨rfl, HF3.out.alloc _⟩
end Go.Proofs.YtbdheihjnkfpiaaGreatDoor
