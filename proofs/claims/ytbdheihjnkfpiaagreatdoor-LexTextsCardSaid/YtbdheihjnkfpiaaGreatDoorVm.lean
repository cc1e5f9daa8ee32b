/-
  protolex.may walked.
-/
import Derived.Test.YtbdheihjnkfpiaaGreatDoorVc
namespace Go.Proofs.YtbdheihjnkfpiaaGreatDoor
open Go Go.RowKit
theorem four_cells {w : World} {b : Nat} {u v x y : Value} {t : TypeId} (h : w.heap[b]? = some (.cells #[u, v, x, y] t (0, 0))) :
    w.cell? ⟨b, 0, none⟩ = some u ∧ w.cell? ⟨b, 1, none⟩ = some v ∧ w.cell? ⟨b, 2, none⟩ = some x ∧ w.cell? ⟨b, 3, none⟩ = some y :=
  ⟨by simp [World.cell?, h], by simp [World.cell?, h], by simp [World.cell?, h], by simp [World.cell?, h]⟩
theorem not_t {b : Bool} (h : (!b) = true) : b = false := by cases b <;> simp_all
theorem not_f {b : Bool} (h : (!b) = false) : b = true := by cases b <;> simp_all
theorem some_beq (a b : Int) : ((some a : Option Int) == some b) = (a == b) := rfl
set_option maxRecDepth 100000 in
set_option maxHeartbeats 4000000 in
theorem may_any (t : PT) (w : World) :
    Calls Tryz.prog 29 #[ptV t] w fun e w' => e = .returned (.bool (mayBe t)) ∧ Fr No w w' := by
  obtain ⟨kind, place, text, num⟩ := t
  unfold ptV ptCells
  dsimp only
  obtain ⟨X, hX⟩ : ∃ X : ByteArray, X = ⟨text.toArray⟩ := ⟨_, rfl⟩
  rw [← hX]
  have hXt : X.data.toList = text := by rw [hX]
  obtain ⟨Q, hQ⟩ : ∃ Q, (!(X.data.toList.all isWord)) = Q := ⟨_, rfl⟩
  have HC := fun wx => may_contains X wx
  rw [hQ] at HC
  have HC := Lib.hid HC
  obtain ⟨R, hR⟩ : ∃ R, mayBe ⟨kind, place, text, num⟩ = R := ⟨_, rfl⟩
  rw [hR]
  unfold mayBe at hR
  dsimp only at hR
  rw [hXt] at hQ
  have HB := Lib.hid (heap_alloc_new w (.cells #[.int .i64 kind, .int .i64 place, .string X, .int .u64 num] 33))
  have HF := Lib.hid ((Fr.refl No w).alloc (.cells #[.int .i64 kind, .int .i64 place, .string X, .int .u64 num] 33))
  by_cases h1 : kind = 1
  · rw [if_pos h1] at hR
    have h1b : ((kind : Int) == 1) = true := by rw [h1]; rfl
    clear h1
    by_cases hz : num = 0
    · have hz' : ((num : Int) == 0) = true := by rw [hz]; rfl
      cases text with
      | nil =>
        have hXe : X.toList.isEmpty = true := by rw [ByteArray.toList_eq, hXt]; rfl
        have hXe2 : X.toList = [] := by rw [ByteArray.toList_eq, hXt]
        have hRf : R = false := by rw [← hR]; simp
        subst hRf
        clear hR hX hXt hQ; try clear hz
        go_enter Tryz.func29, Tryz.ntmps29
        go_wp2_with (first | (go_at_call 49; refine (HC.out _).mono ?_; rintro e w' ⟨rfl, hf⟩; have hb2 := hf.at HB.out (fun h => h); obtain ⟨d0, d1, d2, d3⟩ := four_cells hb2; clear hb2; have HF2 := Lib.hid (HF.out.trans_same hf); clear hf) | (go_at_call 52; refine (HK.out _).mono ?_; rintro e w3 ⟨rfl, rfl⟩))
        go_ret
        exact ⟨rfl, HF2.out⟩
      | cons c r =>
        have hsz : 0 < X.size := by rw [hX]; exact Nat.succ_pos _
        have hsz2 : (0 : Int) < (X.size : Int) := by omega
        have hXe : X.toList.isEmpty = false := by rw [ByteArray.toList_eq, hXt]; rfl
        have hXe2 : ¬ X.toList = [] := by rw [ByteArray.toList_eq, hXt]; simp
        have hc : X[0]'hsz = c := by subst hX; rfl
        have HK := Lib.hid (fun wx => classOf_any (c.toNat : Int) wx (cls_byte c).1 (cls_byte c).2)
        obtain ⟨K, hK⟩ : ∃ K, classN (c.toNat : Int) = K := ⟨_, rfl⟩
        rw [hK] at HK
        have hcls : cls c = K := hK
        cases Q with
        | true =>
          have hRf : R = false := by rw [← hR]; rw [not_t hQ, Bool.and_false, Bool.and_false]
          subst hRf
          clear hcls hK
          clear hR hX hXt hQ; try clear hz
          go_enter Tryz.func29, Tryz.ntmps29
          go_wp2_with (first | (go_at_call 49; refine (HC.out _).mono ?_; rintro e w' ⟨rfl, hf⟩; have hb2 := hf.at HB.out (fun h => h); obtain ⟨d0, d1, d2, d3⟩ := four_cells hb2; clear hb2; have HF2 := Lib.hid (HF.out.trans_same hf); clear hf) | (go_at_call 52; refine (HK.out _).mono ?_; rintro e w3 ⟨rfl, rfl⟩))
          go_ret
          exact ⟨rfl, HF2.out⟩
        | false =>
          have hQ2 : (c :: r).all isWord = true := not_f hQ
          cases hk : (K == 1)
          · have hRf : R = false := by rw [← hR]; rw [hQ2, List.head?_cons, Option.map_some, hcls, hz, some_beq, hk]; rfl
            subst hRf
            clear hcls hK hQ2
            clear hR hX hXt hQ; try clear hz
            go_enter Tryz.func29, Tryz.ntmps29
            go_wp2_with (first | (go_at_call 49; refine (HC.out _).mono ?_; rintro e w' ⟨rfl, hf⟩; have hb2 := hf.at HB.out (fun h => h); obtain ⟨d0, d1, d2, d3⟩ := four_cells hb2; clear hb2; have HF2 := Lib.hid (HF.out.trans_same hf); clear hf) | (go_at_call 52; refine (HK.out _).mono ?_; rintro e w3 ⟨rfl, rfl⟩))
            go_ret
            exact ⟨rfl, HF2.out⟩
          · have hRf : R = true := by rw [← hR]; rw [hQ2, List.head?_cons, Option.map_some, hcls, hz, some_beq, hk]; rfl
            subst hRf
            clear hcls hK hQ2
            clear hR hX hXt hQ; try clear hz
            go_enter Tryz.func29, Tryz.ntmps29
            go_wp2_with (first | (go_at_call 49; refine (HC.out _).mono ?_; rintro e w' ⟨rfl, hf⟩; have hb2 := hf.at HB.out (fun h => h); obtain ⟨d0, d1, d2, d3⟩ := four_cells hb2; clear hb2; have HF2 := Lib.hid (HF.out.trans_same hf); clear hf) | (go_at_call 52; refine (HK.out _).mono ?_; rintro e w3 ⟨rfl, rfl⟩))
            go_ret
            exact ⟨rfl, HF2.out⟩
    · have hz' : ((num : Int) == 0) = false := beq_eq_false_iff_ne.2 (by omega)
      have hRf : R = false := by rw [← hR]; simp [hz]
      subst hRf
      clear hR hX hXt hQ; try clear hz
      go_enter Tryz.func29, Tryz.ntmps29
      go_wp2_with (first | (go_at_call 49; refine (HC.out _).mono ?_; rintro e w' ⟨rfl, hf⟩; have hb2 := hf.at HB.out (fun h => h); obtain ⟨d0, d1, d2, d3⟩ := four_cells hb2; clear hb2; have HF2 := Lib.hid (HF.out.trans_same hf); clear hf) | (go_at_call 52; refine (HK.out _).mono ?_; rintro e w3 ⟨rfl, rfl⟩))
      go_ret
      exact ⟨rfl, HF2.out⟩
  rw [if_neg h1] at hR
  by_cases h2 : kind = 2
  · rw [if_pos h2] at hR
    have h1b : ((kind : Int) == 1) = false := beq_eq_false_iff_ne.2 (by omega)
    have h2b : ((kind : Int) == 2) = true := by rw [h2]; rfl
    clear h1 h2
    cases text with
    | nil =>
      have hXe : X.toList.isEmpty = true := by rw [ByteArray.toList_eq, hXt]; rfl
      have hXe2 : X.toList = [] := by rw [ByteArray.toList_eq, hXt]
      have hRf : R = true := by rw [← hR]; rfl
      subst hRf
      clear hR hX hXt hQ; try clear hz
      go_enter Tryz.func29, Tryz.ntmps29
      go_wp2_with (first | (go_at_call 49; refine (HC.out _).mono ?_; rintro e w' ⟨rfl, hf⟩; have hb2 := hf.at HB.out (fun h => h); obtain ⟨d0, d1, d2, d3⟩ := four_cells hb2; clear hb2; have HF2 := Lib.hid (HF.out.trans_same hf); clear hf) | (go_at_call 52; refine (HK.out _).mono ?_; rintro e w3 ⟨rfl, rfl⟩))
      go_ret
      exact ⟨rfl, HF.out⟩
    | cons c r =>
      have hXe : X.toList.isEmpty = false := by rw [ByteArray.toList_eq, hXt]; rfl
      have hXe2 : ¬ X.toList = [] := by rw [ByteArray.toList_eq, hXt]; simp
      have hRf : R = false := by rw [← hR]; rfl
      subst hRf
      clear hR hX hXt hQ; try clear hz
      go_enter Tryz.func29, Tryz.ntmps29
      go_wp2_with (first | (go_at_call 49; refine (HC.out _).mono ?_; rintro e w' ⟨rfl, hf⟩; have hb2 := hf.at HB.out (fun h => h); obtain ⟨d0, d1, d2, d3⟩ := four_cells hb2; clear hb2; have HF2 := Lib.hid (HF.out.trans_same hf); clear hf) | (go_at_call 52; refine (HK.out _).mono ?_; rintro e w3 ⟨rfl, rfl⟩))
      go_ret
      exact ⟨rfl, HF.out⟩
  rw [if_neg h2] at hR
  by_cases h3 : kind = 3
  · rw [if_pos h3] at hR
    have h1b : ((kind : Int) == 1) = false := beq_eq_false_iff_ne.2 (by omega)
    have h2b : ((kind : Int) == 2) = false := beq_eq_false_iff_ne.2 (by omega)
    have h3b : ((kind : Int) == 3) = true := by rw [h3]; rfl
    clear h1 h2 h3
    by_cases hz : num = 0
    · have hz' : ((num : Int) == 0) = true := by rw [hz]; rfl
      have hRf : R = true := by rw [← hR]; simp [hz]
      subst hRf
      clear hR hX hXt hQ; try clear hz
      go_enter Tryz.func29, Tryz.ntmps29
      go_wp2_with (first | (go_at_call 49; refine (HC.out _).mono ?_; rintro e w' ⟨rfl, hf⟩; have hb2 := hf.at HB.out (fun h => h); obtain ⟨d0, d1, d2, d3⟩ := four_cells hb2; clear hb2; have HF2 := Lib.hid (HF.out.trans_same hf); clear hf) | (go_at_call 52; refine (HK.out _).mono ?_; rintro e w3 ⟨rfl, rfl⟩))
      go_ret
      exact ⟨rfl, HF.out⟩
    · have hz' : ((num : Int) == 0) = false := beq_eq_false_iff_ne.2 (by omega)
      have hRf : R = false := by rw [← hR]; simp [hz]
      subst hRf
      clear hR hX hXt hQ; try clear hz
      go_enter Tryz.func29, Tryz.ntmps29
      go_wp2_with (first | (go_at_call 49; refine (HC.out _).mono ?_; rintro e w' ⟨rfl, hf⟩; have hb2 := hf.at HB.out (fun h => h); obtain ⟨d0, d1, d2, d3⟩ := four_cells hb2; clear hb2; have HF2 := Lib.hid (HF.out.trans_same hf); clear hf) | (go_at_call 52; refine (HK.out _).mono ?_; rintro e w3 ⟨rfl, rfl⟩))
      go_ret
      exact ⟨rfl, HF.out⟩
  rw [if_neg h3] at hR
  by_cases h4 : kind = 4
  · rw [if_pos h4] at hR
    have h1b : ((kind : Int) == 1) = false := beq_eq_false_iff_ne.2 (by omega)
    have h2b : ((kind : Int) == 2) = false := beq_eq_false_iff_ne.2 (by omega)
    have h3b : ((kind : Int) == 3) = false := beq_eq_false_iff_ne.2 (by omega)
    have h4b : ((kind : Int) == 4) = true := by rw [h4]; rfl
    clear h1 h2 h3 h4
    by_cases hz : num = 0
    · have hz' : ((num : Int) == 0) = true := by rw [hz]; rfl
      have hsl : X.size = text.length := by rw [hX]; rfl
      by_cases hl : text.length = 1
      · have hl1 : ((X.size : Int) == 1) = true := by rw [hsl, hl]; rfl
        cases text with
        | nil => simp at hl
        | cons c r =>
          have hsz : 0 < X.size := by rw [hX]; exact Nat.succ_pos _
          have hsz2 : (0 : Int) < (X.size : Int) := by omega
          have hc : X[0]'hsz = c := by subst hX; rfl
          have HK := Lib.hid (fun wx => classOf_any (c.toNat : Int) wx (cls_byte c).1 (cls_byte c).2)
          obtain ⟨K, hK⟩ : ∃ K, classN (c.toNat : Int) = K := ⟨_, rfl⟩
          rw [hK] at HK
          have hcls : cls c = K := hK
          cases hk : (K == 4)
          · have hRf : R = false := by rw [← hR]; rw [hl, List.head?_cons, Option.map_some, hcls, hz, some_beq, hk]; rfl
            subst hRf
            clear hcls hK hl hsl
            clear hR hX hXt hQ; try clear hz
            go_enter Tryz.func29, Tryz.ntmps29
            go_wp2_with (first | (go_at_call 49; refine (HC.out _).mono ?_; rintro e w' ⟨rfl, hf⟩; have hb2 := hf.at HB.out (fun h => h); obtain ⟨d0, d1, d2, d3⟩ := four_cells hb2; clear hb2; have HF2 := Lib.hid (HF.out.trans_same hf); clear hf) | (go_at_call 52; refine (HK.out _).mono ?_; rintro e w3 ⟨rfl, rfl⟩))
            go_ret
            exact ⟨rfl, HF.out⟩
          · have hRf : R = true := by rw [← hR]; rw [hl, List.head?_cons, Option.map_some, hcls, hz, some_beq, hk]; rfl
            subst hRf
            clear hcls hK hl hsl
            clear hR hX hXt hQ; try clear hz
            go_enter Tryz.func29, Tryz.ntmps29
            go_wp2_with (first | (go_at_call 49; refine (HC.out _).mono ?_; rintro e w' ⟨rfl, hf⟩; have hb2 := hf.at HB.out (fun h => h); obtain ⟨d0, d1, d2, d3⟩ := four_cells hb2; clear hb2; have HF2 := Lib.hid (HF.out.trans_same hf); clear hf) | (go_at_call 52; refine (HK.out _).mono ?_; rintro e w3 ⟨rfl, rfl⟩))
            go_ret
            exact ⟨rfl, HF.out⟩
      · have hl1 : ((X.size : Int) == 1) = false := beq_eq_false_iff_ne.2 (by omega)
        have hRf : R = false := by rw [← hR]; simp [hl]
        subst hRf
        clear hl hsl
        clear hR hX hXt hQ; try clear hz
        go_enter Tryz.func29, Tryz.ntmps29
        go_wp2_with (first | (go_at_call 49; refine (HC.out _).mono ?_; rintro e w' ⟨rfl, hf⟩; have hb2 := hf.at HB.out (fun h => h); obtain ⟨d0, d1, d2, d3⟩ := four_cells hb2; clear hb2; have HF2 := Lib.hid (HF.out.trans_same hf); clear hf) | (go_at_call 52; refine (HK.out _).mono ?_; rintro e w3 ⟨rfl, rfl⟩))
        go_ret
        exact ⟨rfl, HF.out⟩
    · have hz' : ((num : Int) == 0) = false := beq_eq_false_iff_ne.2 (by omega)
      have hRf : R = false := by rw [← hR]; simp [hz]
      subst hRf
      clear hR hX hXt hQ; try clear hz
      go_enter Tryz.func29, Tryz.ntmps29
      go_wp2_with (first | (go_at_call 49; refine (HC.out _).mono ?_; rintro e w' ⟨rfl, hf⟩; have hb2 := hf.at HB.out (fun h => h); obtain ⟨d0, d1, d2, d3⟩ := four_cells hb2; clear hb2; have HF2 := Lib.hid (HF.out.trans_same hf); clear hf) | (go_at_call 52; refine (HK.out _).mono ?_; rintro e w3 ⟨rfl, rfl⟩))
      go_ret
      exact ⟨rfl, HF.out⟩
  rw [if_neg h4] at hR
  have h1b : ((kind : Int) == 1) = false := beq_eq_false_iff_ne.2 (by omega)
  have h2b : ((kind : Int) == 2) = false := beq_eq_false_iff_ne.2 (by omega)
  have h3b : ((kind : Int) == 3) = false := beq_eq_false_iff_ne.2 (by omega)
  have h4b : ((kind : Int) == 4) = false := beq_eq_false_iff_ne.2 (by omega)
  clear h1 h2 h3 h4
  subst hR
  clear hX hXt hQ
  go_enter Tryz.func29, Tryz.ntmps29
  go_wp2_with (first | (go_at_call 49; refine (HC.out _).mono ?_; rintro e w' ⟨rfl, hf⟩; have hb2 := hf.at HB.out (fun h => h); obtain ⟨d0, d1, d2, d3⟩ := four_cells hb2; clear hb2; have HF2 := Lib.hid (HF.out.trans_same hf); clear hf) | (go_at_call 52; refine (HK.out _).mono ?_; rintro e w3 ⟨rfl, rfl⟩))
  go_ret
  exact ⟨rfl, HF.out⟩
end Go.Proofs.YtbdheihjnkfpiaaGreatDoor
