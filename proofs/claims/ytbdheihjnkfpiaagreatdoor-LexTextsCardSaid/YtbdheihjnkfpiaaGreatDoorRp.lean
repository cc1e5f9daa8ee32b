/-
  The document's answer walked: may a token be.
-/
import Derived.Test.YtbdheihjnkfpiaaGreatDoorRd
import Derived.Test.YtbdheihjnkfpiaaGreatDoorBa
import Derived.Test.YtbdheihjnkfpiaaGreatDoorVf
import Derived.Test.YtbdheihjnkfpiaaGreatDoorVm
import Derived.Test.YtbdheihjnkfpiaaGreatDoorRq
namespace Go.Proofs.YtbdheihjnkfpiaaGreatDoor
open Go Go.RowKit
theorem ten_cls (c : UInt8) (h : isWord c = true) : (cls c == 1) = !isTen c := by
  have := all_bytes (fun c => !isWord c || ((cls c == 1) == !isTen c)) (by decide +kernel) c
  rw [h] at this
  simpa using this
theorem sign_cls (c : UInt8) : signsB.contains c = (cls c == 4) := by
  have := all_bytes (fun c => signsB.contains c == (cls c == 4)) (by decide +kernel) c
  simpa using this
theorem word_all : ∀ (l : Bytes), (wordLen l == l.length) = l.all isWord
  | [] => rfl
  | c :: r => by
    rw [wordLen_cons, List.all_cons, List.length_cons]
    cases hw : isWord c
    · simp
    · rw [if_pos rfl, ← word_all r, Bool.true_and, Bool.eq_iff_iff, beq_iff_eq, beq_iff_eq]; omega
theorem words_fun : (wordB.contains ·) = isWord := by funext c; exact word_mem c
theorem rin_tens (c : UInt8) (w : World) : Calls Tryz.prog 44 #[.int .u8 c.toNat, .string ⟨#[48, 49, 50, 51, 52, 53, 54, 55, 56, 57]⟩] w fun e w' => e = .returned (.bool (isTen c)) ∧ w' = w := by
  have h := rin_any c ⟨#[48, 49, 50, 51, 52, 53, 54, 55, 56, 57]⟩ w (by decide)
  have e : tenB.contains c = isTen c := congrFun tens_fun c
  rw [← e]
  exact h.mono fun _ _ h => ⟨h.1, h.2.symm⟩
theorem rin_signs (c : UInt8) (w : World) : Calls Tryz.prog 44 #[.int .u8 c.toNat, .string ⟨#[59, 123, 125, 91, 93, 60, 62, 40, 41, 61, 44, 46, 45]⟩] w fun e w' => e = .returned (.bool (cls c == 4)) ∧ w' = w := by
  have h := rin_any c ⟨#[59, 123, 125, 91, 93, 60, 62, 40, 41, 61, 44, 46, 45]⟩ w (by decide)
  rw [← sign_cls]
  exact h.mono fun _ _ h => ⟨h.1, h.2.symm⟩
theorem rrun_word (s : ByteArray) (w : World) (hs : s.size ≤ 2147483640) : Calls Tryz.prog 45 #[.string s, .int .i64 0, .string ⟨#[97, 98, 99, 100, 101, 102, 103, 104, 105, 106, 107, 108, 109, 110, 111, 112, 113, 114, 115, 116, 117, 118, 119, 120, 121, 122, 65, 66, 67, 68, 69, 70, 71, 72, 73, 74, 75, 76, 77, 78, 79, 80, 81, 82, 83, 84, 85, 86, 87, 88, 89, 90, 95, 48, 49, 50, 51, 52, 53, 54, 55, 56, 57]⟩] w
    fun e w' => e = .returned (.int .i64 ((wordLen s.data.toList : Nat))) ∧ w' = w := by
  have h := rrun_any s 0 ⟨#[97, 98, 99, 100, 101, 102, 103, 104, 105, 106, 107, 108, 109, 110, 111, 112, 113, 114, 115, 116, 117, 118, 119, 120, 121, 122, 65, 66, 67, 68, 69, 70, 71, 72, 73, 74, 75, 76, 77, 78, 79, 80, 81, 82, 83, 84, 85, 86, 87, 88, 89, 90, 95, 48, 49, 50, 51, 52, 53, 54, 55, 56, 57]⟩ w hs (Nat.zero_le _) (by decide)
  have e : ((s.data.toList.drop 0).takeWhile (wordB.contains ·)) = s.data.toList.takeWhile isWord := by rw [words_fun]; rfl
  unfold wordLen
  refine h.mono fun _ _ h => ⟨?_, h.2.symm⟩
  rw [h.1, show (⟨#[97, 98, 99, 100, 101, 102, 103, 104, 105, 106, 107, 108, 109, 110, 111, 112, 113, 114, 115, 116, 117, 118, 119, 120, 121, 122, 65, 66, 67, 68, 69, 70, 71, 72, 73, 74, 75, 76, 77, 78, 79, 80, 81, 82, 83, 84, 85, 86, 87, 88, 89, 90, 95, 48, 49, 50, 51, 52, 53, 54, 55, 56, 57]⟩ : ByteArray).data.toList = wordB from rfl, e, Nat.zero_add]
set_option maxRecDepth 100000 in
set_option maxHeartbeats 4000000 in
theorem rmay_any (t : PT) (w : World) (hts : t.text.length ≤ 2147483640) :
    Calls Tryz.prog 35 #[ptV t] w fun e w' => e = .returned (.bool (mayBe t)) ∧ Fr No w w' := by
  obtain ⟨kind, place, text, num⟩ := t
  unfold ptV ptCells
  dsimp only at hts ⊢
  obtain ⟨X, hX⟩ : ∃ X : ByteArray, X = ⟨text.toArray⟩ := ⟨_, rfl⟩
  rw [← hX]
  have hXt : X.data.toList = text := by rw [hX]
  have hXs : X.size = text.length := by rw [hX]; rfl
  obtain ⟨R, hR⟩ : ∃ R, mayBe ⟨kind, place, text, num⟩ = R := ⟨_, rfl⟩
  rw [hR]
  unfold mayBe at hR
  dsimp only at hR
  have HF := Lib.hid ((Fr.refl No w).alloc (.cells #[.int .i64 kind, .int .i64 place, .string X, .int .u64 num] 33))
  by_cases h1 : kind = 1
  · rw [if_pos h1] at hR
    have h1b : ((kind : Int) == 1) = true := by rw [h1]; rfl
    clear h1
    by_cases hz : num = 0
    · have hz' : ((num : Int) == 0) = true := by rw [hz]; rfl
      cases text with
      | nil =>
        have hXe : X.toList.isEmpty = true := by rw [ByteArray.toList_eq, hXt]; rfl
        have hXe2 : X.toList = [] := by rw [ByteArray.toList_eq, hXt]
        have hRf : R = false := by rw [← hR]; simp
        subst hRf
        clear hR hX hXt hXs hts; try clear hz
        go_enter Tryz.func35, Tryz.ntmps35
        go_wp2_with (first | go_quiet ((first | (go_at_call 44; refine Calls.quiet_of_same (HI.out _)) | (go_at_call 45; refine Calls.quiet_of_same (HU.out _)))))
        go_ret
        exact ⟨rfl, HF.out.drewN _⟩
      | cons c r =>
        have hsz : 0 < X.size := by rw [hX]; exact Nat.succ_pos _
        have hsz2 : (0 : Int) < (X.size : Int) := by omega
        have hXe : X.toList.isEmpty = false := by rw [ByteArray.toList_eq, hXt]; rfl
        have hXe2 : ¬ X.toList = [] := by rw [ByteArray.toList_eq, hXt]; simp
        have hc : X[0]'hsz = c := by subst hX; rfl
        have HU0 := fun wx => rrun_word X wx (by rw [hXs]; exact hts)
        rw [hXt] at HU0
        have hwl := word_all (c :: r)
        obtain ⟨L, hL⟩ : ∃ L, wordLen (c :: r) = L := ⟨_, rfl⟩
        rw [hL] at HU0 hwl
        have HU := Lib.hid HU0
        have HI0 := fun wx => rin_tens c wx
        obtain ⟨T, hT⟩ : ∃ T, isTen c = T := ⟨_, rfl⟩
        rw [hT] at HI0
        have HI := Lib.hid HI0
        have hwl2 : ((L : Int) == (X.size : Int)) = (c :: r).all isWord := by rw [← hwl, hXs, Bool.eq_iff_iff, beq_iff_eq, beq_iff_eq]; omega
        clear HU0 HI0 hwl hL
        obtain ⟨B, hB⟩ : ∃ B, (c :: r).all isWord = B := ⟨_, rfl⟩
        rw [hB] at hwl2
        have hRR : R = (!T && B) := by
          rw [← hR, hB, hz, List.head?_cons, Option.map_some, some_beq]
          cases B with
          | false => simp
          | true =>
            have hw : isWord c = true := by rw [List.all_cons, Bool.and_eq_true] at hB; exact hB.1
            rw [ten_cls c hw, hT]; simp
        subst hRR
        clear hR hX hXt hXs hts hz hB hT
        cases T <;> cases B
        all_goals
          go_enter Tryz.func35, Tryz.ntmps35
          go_wp2_with (first | go_quiet ((first | (go_at_call 44; refine Calls.quiet_of_same (HI.out _)) | (go_at_call 45; refine Calls.quiet_of_same (HU.out _)))))
          go_ret
          exact ⟨rfl, HF.out.drewN _⟩
    · have hz' : ((num : Int) == 0) = false := beq_eq_false_iff_ne.2 (by omega)
      have hRf : R = false := by rw [← hR]; simp [hz]
      subst hRf
      clear hR hX hXt hXs hts; try clear hz
      go_enter Tryz.func35, Tryz.ntmps35
      go_wp2_with (first | go_quiet ((first | (go_at_call 44; refine Calls.quiet_of_same (HI.out _)) | (go_at_call 45; refine Calls.quiet_of_same (HU.out _)))))
      go_ret
      exact ⟨rfl, HF.out.drewN _⟩
  rw [if_neg h1] at hR
  have h1b : ((kind : Int) == 1) = false := beq_eq_false_iff_ne.2 (by omega)
  by_cases h2 : kind = 2
  · rw [if_pos h2] at hR
    have h2b : ((kind : Int) == 2) = true := by rw [h2]; rfl
    clear h1 h2
    cases text with
    | nil =>
      have hXe : X.toList.isEmpty = true := by rw [ByteArray.toList_eq, hXt]; rfl
      have hXe2 : X.toList = [] := by rw [ByteArray.toList_eq, hXt]
      have hRf : R = true := by rw [← hR]; rfl
      subst hRf
      clear hR hX hXt hXs hts; try clear hz
      go_enter Tryz.func35, Tryz.ntmps35
      go_wp2_with (first | go_quiet ((first | (go_at_call 44; refine Calls.quiet_of_same (HI.out _)) | (go_at_call 45; refine Calls.quiet_of_same (HU.out _)))))
      go_ret
      exact ⟨rfl, HF.out⟩
    | cons c r =>
      have hXe : X.toList.isEmpty = false := by rw [ByteArray.toList_eq, hXt]; rfl
      have hXe2 : ¬ X.toList = [] := by rw [ByteArray.toList_eq, hXt]; simp
      have hRf : R = false := by rw [← hR]; rfl
      subst hRf
      clear hR hX hXt hXs hts; try clear hz
      go_enter Tryz.func35, Tryz.ntmps35
      go_wp2_with (first | go_quiet ((first | (go_at_call 44; refine Calls.quiet_of_same (HI.out _)) | (go_at_call 45; refine Calls.quiet_of_same (HU.out _)))))
      go_ret
      exact ⟨rfl, HF.out⟩
  rw [if_neg h2] at hR
  have h2b : ((kind : Int) == 2) = false := beq_eq_false_iff_ne.2 (by omega)
  by_cases h3 : kind = 3
  · rw [if_pos h3] at hR
    have h3b : ((kind : Int) == 3) = true := by rw [h3]; rfl
    clear h1 h2 h3
    by_cases hz : num = 0
    · have hz' : ((num : Int) == 0) = true := by rw [hz]; rfl
      have hRf : R = true := by rw [← hR]; simp [hz]
      subst hRf
      clear hR hX hXt hXs hts; try clear hz
      go_enter Tryz.func35, Tryz.ntmps35
      go_wp2_with (first | go_quiet ((first | (go_at_call 44; refine Calls.quiet_of_same (HI.out _)) | (go_at_call 45; refine Calls.quiet_of_same (HU.out _)))))
      go_ret
      exact ⟨rfl, HF.out⟩
    · have hz' : ((num : Int) == 0) = false := beq_eq_false_iff_ne.2 (by omega)
      have hRf : R = false := by rw [← hR]; simp [hz]
      subst hRf
      clear hR hX hXt hXs hts; try clear hz
      go_enter Tryz.func35, Tryz.ntmps35
      go_wp2_with (first | go_quiet ((first | (go_at_call 44; refine Calls.quiet_of_same (HI.out _)) | (go_at_call 45; refine Calls.quiet_of_same (HU.out _)))))
      go_ret
      exact ⟨rfl, HF.out⟩
  rw [if_neg h3] at hR
  have h3b : ((kind : Int) == 3) = false := beq_eq_false_iff_ne.2 (by omega)
  by_cases h4 : kind = 4
  · rw [if_pos h4] at hR
    have h4b : ((kind : Int) == 4) = true := by rw [h4]; rfl
    clear h1 h2 h3 h4
    by_cases hz : num = 0
    · have hz' : ((num : Int) == 0) = true := by rw [hz]; rfl
      by_cases hl : text.length = 1
      · have hl1 : ((X.size : Int) == 1) = true := by rw [hXs, hl]; rfl
        cases text with
        | nil => simp at hl
        | cons c r =>
          have hsz : 0 < X.size := by rw [hX]; exact Nat.succ_pos _
          have hsz2 : (0 : Int) < (X.size : Int) := by omega
          have hc : X[0]'hsz = c := by subst hX; rfl
          
          have HI0 := fun wx => rin_signs c wx
          obtain ⟨T, hT⟩ : ∃ T, (cls c == 4) = T := ⟨_, rfl⟩
          rw [hT] at HI0
          have HI := Lib.hid HI0
          have hRR : R = T := by rw [← hR, hl, List.head?_cons, Option.map_some, some_beq, hT, hz]; simp
          subst hRR
          clear hR hX hXt hXs hts hz hl hT HI0
          go_enter Tryz.func35, Tryz.ntmps35
          go_wp2_with (go_at_call 44; refine (HI.out _).mono ?_; rintro e w' ⟨rfl, rfl⟩)
          go_ret
          exact ⟨rfl, HF.out⟩
      · have hl1 : ((X.size : Int) == 1) = false := beq_eq_false_iff_ne.2 (by omega)
        have hRf : R = false := by rw [← hR]; simp [hl]
        subst hRf
        clear hl
        clear hR hX hXt hXs hts; try clear hz
        go_enter Tryz.func35, Tryz.ntmps35
        go_wp2_with (first | go_quiet ((first | (go_at_call 44; refine Calls.quiet_of_same (HI.out _)) | (go_at_call 45; refine Calls.quiet_of_same (HU.out _)))))
        go_ret
        exact ⟨rfl, HF.out⟩
    · have hz' : ((num : Int) == 0) = false := beq_eq_false_iff_ne.2 (by omega)
      have hRf : R = false := by rw [← hR]; simp [hz]
      subst hRf
      clear hR hX hXt hXs hts; try clear hz
      go_enter Tryz.func35, Tryz.ntmps35
      go_wp2_with (first | go_quiet ((first | (go_at_call 44; refine Calls.quiet_of_same (HI.out _)) | (go_at_call 45; refine Calls.quiet_of_same (HU.out _)))))
      go_ret
      exact ⟨rfl, HF.out⟩
  rw [if_neg h4] at hR
  have h4b : ((kind : Int) == 4) = false := beq_eq_false_iff_ne.2 (by omega)
  subst hR
  clear h1 h2 h3 h4 hX hXt hXs hts
  go_enter Tryz.func35, Tryz.ntmps35
  go_wp2_with (first | go_quiet ((first | (go_at_call 44; refine Calls.quiet_of_same (HI.out _)) | (go_at_call 45; refine Calls.quiet_of_same (HU.out _)))))
  go_ret
  exact ⟨rfl, HF.out⟩
end Go.Proofs.YtbdheihjnkfpiaaGreatDoor
