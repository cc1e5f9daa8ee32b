/-
  The lexer's texts in quotes walked.
-/
import Derived.Test.YtbdheihjnkfpiaaGreatDoorWi
import Derived.Test.YtbdheihjnkfpiaaGreatDoorWh
import Derived.Deep.CutBlock
import Derived.Deep.DeepCutAuto
namespace Go.Proofs.YtbdheihjnkfpiaaGreatDoor
open Go Go.RowKit
/-- text: the bytes in quotes, or that they do not end, or hold what may not stand there. -/
def TextPost (b : Nat) (s : ByteArray) (k : Nat) (o : Option (Bytes × Nat)) (w : World) (e : Ending) (w' : World) : Prop :=
  Fr (One b) w w' ∧
  match o with
  | some (t, n) => e = .returned (.string ⟨t.toArray⟩) ∧ w'.heap[b]? = some (.cells #[.string s, .int .i64 ((k + 1 + n : Nat))] 78 (0, 0))
  | none => e = .panicked (refusedAt k 240)
theorem textRun_end (q : UInt8) : textRun q [] = none := by rw [textRun]
theorem textRun_quote (q : UInt8) (l : Bytes) : textRun q (q :: l) = some ([], 1) := by rw [textRun, if_pos rfl]
theorem textRun_line {q c : UInt8} {l : Bytes} (h : c ≠ q) (h1 : c = 10 ∨ c = 0) : textRun q (c :: l) = none := by rw [textRun, if_neg h, if_pos h1]
theorem textRun_esc {q c : UInt8} {l : Bytes} (h : c ≠ q) (h1 : ¬ (c = 10 ∨ c = 0)) (h2 : c = 92) {x : UInt8} {k : Nat} (he : escape l = some (x, k)) :
    textRun q (c :: l) = (textRun q (l.drop k)).map fun p => (x :: p.1, p.2 + (k + 1)) := by rw [textRun, if_neg h, if_neg h1, if_pos h2, he]
theorem textRun_bad {q c : UInt8} {l : Bytes} (h : c ≠ q) (h1 : ¬ (c = 10 ∨ c = 0)) (h2 : c = 92) (he : escape l = none) : textRun q (c :: l) = none := by
  rw [textRun, if_neg h, if_neg h1, if_pos h2, he]
theorem textRun_byte {q c : UInt8} {l : Bytes} (h : c ≠ q) (h1 : ¬ (c = 10 ∨ c = 0)) (h2 : c ≠ 92) : textRun q (c :: l) = (textRun q l).map fun p => (c :: p.1, p.2 + 1) := by
  rw [textRun, if_neg h, if_neg h1, if_neg h2]
theorem byte_ne {c d : UInt8} (h : c ≠ d) : ((c.toNat : Int) == (d.toNat : Int)) = false := beq_eq_false_iff_ne.2 fun e => h (UInt8.toNat_inj.1 (by omega))

theorem at_alloc {w : World} {b : Nat} {o : Obj} (h : w.heap[b]? = some o) (o' : Obj) : (w.alloc o').heap[b]? = some o := (Below.heap_alloc w o' b (lt_of_block h)).trans h
theorem escape_len {l : Bytes} {x : UInt8} {n : Nat} (h : escape l = some (x, n)) : 1 ≤ n ∧ n ≤ l.length := by
  cases l with
  | nil => simp [escape] at h
  | cons c r =>
    have t1 : ((r.take 2).takeWhile isHex).length ≤ r.length := ((List.takeWhile_prefix _).trans (List.take_prefix _ _)).length_le
    have t2 : (((c :: r).take 3).takeWhile isEight).length ≤ (c :: r).length := ((List.takeWhile_prefix _).trans (List.take_prefix _ _)).length_le
    rw [escape] at h
    cases hp : escPlain c with
    | some y =>
      rw [hp] at h
      simp only [Option.some.injEq, Prod.mk.injEq] at h
      rw [List.length_cons]; omega
    | none =>
      rw [hp] at h
      dsimp only at h
      by_cases hx : c = 120 ∨ c = 88
      · rw [if_pos hx] at h
        by_cases hd : (r.take 2).takeWhile isHex = []
        · rw [if_pos hd] at h; cases h
        · rw [if_neg hd] at h
          simp only [Option.some.injEq, Prod.mk.injEq] at h
          rw [List.length_cons]; omega
      · rw [if_neg hx] at h
        by_cases hd : ((c :: r).take 3).takeWhile isEight = []
        · rw [if_pos hd] at h; cases h
        · rw [if_neg hd] at h
          have := List.length_pos_iff.2 hd
          by_cases hb : 256 ≤ valOf 8 (((c :: r).take 3).takeWhile isEight)
          · rw [if_pos hb] at h; cases h
          · rw [if_neg hb] at h
            simp only [Option.some.injEq, Prod.mk.injEq] at h
            omega
set_option maxRecDepth 100000 in
set_option maxHeartbeats 4000000 in
theorem text_any (b : Nat) (s : ByteArray) (k : Nat) (w : World) (hb : w.heap[b]? = some (.cells #[.string s, .int .i64 k] 78 (0, 0))) (hb16 : 8 ≤ b) (hV : Vars w) (hs : s.size ≤ 2147483640) (hk : k < s.size) :
    Calls Tryz.prog 75 #[.pointer (some ⟨b, 0, none⟩)] w (TextPost b s k (textRun s[k] (s.data.toList.drop (k + 1))) w) := by
  obtain ⟨c0, c1, f0, f1, hlt0⟩ := two_cells hb
  have hlt' : (k : Int) < (s.size : Int) := by omega
  have hbw : b < w.heap.size := hlt0
  obtain ⟨q, hq⟩ : ∃ q, s[k] = q := ⟨_, rfl⟩
  rw [hq]
  obtain ⟨O, hO⟩ : ∃ O, O = textRun q (s.data.toList.drop (k + 1)) := ⟨_, rfl⟩
  rw [← hO]
  obtain ⟨i0, hi, hz0, hz1, hz2⟩ := info_parts infoU8
  have HI := Lib.hid (And.intro hi (And.intro hz0 (And.intro hz1 hz2)))
  have HB := Lib.hid hb
  have HO := Lib.hid hO
  have HV := Lib.hid hV
  clear hb hO hV hi hz0 hz1 hz2
  go_enter Tryz.func75, Tryz.ntmps75
  go_wp2_with (first | go_quiet (fail))
  go_loopg [5] (s.size + 1) (fun g v wr => ∃ (j : Nat) (acc : Bytes), k + 1 ≤ j ∧ j ≤ s.size ∧ acc.length ≤ j ∧ wr.heap[b]? = some (.cells #[.string s, .int .i64 j] 78 (0, 0)) ∧ Fr (One b) w wr ∧ OwnsB wr w.heap.size v acc ∧ Hid (O = (textRun q (s.data.toList.drop j)).map (fun p => (acc ++ p.1, p.2 + (j - (k + 1))))) ∧ g + j = s.size + 1 + (k + 1))
  case atStart => 
    refine ⟨k + 1, [], by omega, by omega, by simp, set_second (w := w) HB.out _, (Fr.refl _ _).setCell ⟨b, 1, none⟩ _ (fun _ => rfl), OwnsB.nil _ _, Lib.hid (by rw [HO.out]; simp), ?_⟩
    omega
  case round =>
    obtain ⟨j, acc, hj1, hj2, hal, hbj, hfr, hown, hT, hg⟩ := hrel
    clear HB c0 c1 f0 f1 hlt0
    obtain ⟨c0, c1, f0, f1, hlt0⟩ := two_cells hbj
    have SET := Lib.hid (fun (x : Value) (wx : World) (h : wx.heap[b]? = wr.heap[b]?) => set_second (w := wx) (h.trans hbj) x)
    have HBj := Lib.hid hbj
    have HFr := Lib.hid hfr
    have HOwn := Lib.hid hown
    have HG := Lib.hid hg
    clear hbj hfr hown hg
    have HBAD := Lib.hid (fun (h : textRun q (s.data.toList.drop j) = none) (wx : World) (hf : Fr (One b) w wx) => (show TextPost b s k O w (.panicked (refusedAt k 240)) wx from ⟨hf, by rw [hT.out, h]; rfl⟩))
    by_cases hlt : j < s.size
    · have hlt2 : (j : Int) < (s.size : Int) := by omega
      have hl := drop_byte s j hlt
      obtain ⟨c, hc⟩ : ∃ c, s[j] = c := ⟨_, rfl⟩
      rw [hc] at hl
      by_cases h1 : c = q
      · subst h1
        have HT := Lib.hid (hT.out.trans (by rw [hl, textRun_quote]))
        clear hT hl
        have hcv := fun n => ((HOwn.out.kept (((Fr.refl (One b) wr).drewN n).setCell ⟨b, 1, none⟩ (.int .i64 ((j : Int) + 1)) (fun _ => rfl)) (fun i hi e => by have e' : i = b := e; omega)).conv)
        go_wp2_with (first | go_quiet (fail))
        go_ret
        refine ⟨(HFr.out.drewN _).setCell ⟨b, 1, none⟩ _ (fun _ => rfl), ?_⟩
        rw [HT.out]
        refine ⟨by simp, ?_⟩
        exact (SET.out _ _ rfl).trans (by simp only []; congr 6; omega)
      · have h1b : ((c.toNat : Int) == (q.toNat : Int)) = false := byte_ne h1
        by_cases h2 : c = 10 ∨ c = 0
        · have hF := HBAD.out (by rw [hl, textRun_line h1 h2])
          have HF := Lib.hid hF
          have h2b : ((c.toNat : Int) == 10) = true ∨ (((c.toNat : Int) == 10) = false ∧ ((c.toNat : Int) == 0) = true) := by
            rcases h2 with h | h
            · exact .inl (by rw [h]; rfl)
            · exact .inr ⟨by rw [h]; rfl, by rw [h]; rfl⟩
          clear hF hT hl h2 h1
          rcases h2b with h2b | ⟨h2b, h3b⟩
          all_goals
            go_wp2_with (first | go_quiet (fail))
            exact ⟨rfl, HF.out _ ((HFr.out.drewN _).setCell ⟨b, 1, none⟩ _ (fun _ => rfl))⟩
        · have h2b : ((c.toNat : Int) == 10) = false := byte_ne (d := 10) (fun e => h2 (.inl e))
          have h3b : ((c.toNat : Int) == 0) = false := byte_ne (d := 0) (fun e => h2 (.inr e))
          by_cases h4 : c = 92
          · have h4b : ((c.toNat : Int) == 92) = true := by rw [h4]; rfl
            cases he : escape (s.data.toList.drop (j + 1)) with
            | none =>
              have hF := HBAD.out (by rw [hl, textRun_bad h1 h2 h4 he])
              have HF := Lib.hid hF
              have HC := Lib.hid (fun (wx : World) hbx hVx => (escape_any b s (j + 1) wx hbx hb16 hVx hs (by omega)).mono fun e w' h => (by unfold EscPost at h; rw [he] at h; exact h : Fr (One b) wx w' ∧ ∃ (v : Value) (j : Int), e = .returned (.tuple #[v, .bool false]) ∧ w'.heap[b]? = some (.cells #[.string s, .int .i64 j] 78 (0, 0))))
              clear hF hT hl h2 h1 h4 he
              go_wp2_with (first | go_quiet (fail))
              refine (HC.out _ (by exact SET.out _ _ rfl) (by exact HV.out.kept ((HFr.out.drewN _).setCell ⟨b, 1, none⟩ _ (fun _ => rfl)) (fun i hi e => by have e2 : i = b := e; omega))).mono ?_
              rintro e w2 ⟨hf2, v, i, rfl, hb2⟩
              go_wp2_with fail
              exact ⟨rfl, HF.out _ (((HFr.out.drewN _).setCell ⟨b, 1, none⟩ _ (fun _ => rfl)).trans_same hf2)⟩
            | some xn =>
              obtain ⟨x, n⟩ := xn
              have hn := escape_len he
              have hn2 : j + 1 + n ≤ s.size := by have := hn.2; simp at this; have hsz : s.data.size = s.size := rfl; omega
              have HT := Lib.hid (hT.out.trans (by rw [hl, textRun_esc h1 h2 h4 he, List.drop_drop]))
              have HC := Lib.hid (fun (wx : World) hbx hVx => (escape_any b s (j + 1) wx hbx hb16 hVx hs (by omega)).mono fun e w' h => (by unfold EscPost at h; rw [he] at h; exact h : Fr (One b) wx w' ∧ e = .returned (.tuple #[.int .u8 x.toNat, .bool true]) ∧ w'.heap[b]? = some (.cells #[.string s, .int .i64 ((j + 1 + n : Nat))] 78 (0, 0))))
              clear hT hl h2 h1 h4 he
              go_wp2_with (first | go_quiet (fail))
              refine (HC.out _ (by exact SET.out _ _ rfl) (by exact HV.out.kept ((HFr.out.drewN _).setCell ⟨b, 1, none⟩ _ (fun _ => rfl)) (fun i hi e => by have e2 : i = b := e; omega))).mono ?_
              rintro e w2 ⟨hf2, rfl, hb2⟩
              have hFr2 := ((HFr.out.drewN (_)).setCell ⟨b, 1, none⟩ (.int .i64 ((j : Int) + 1)) (fun _ => rfl)).trans_same hf2
              have HFr2 := Lib.hid hFr2
              have HO2 := Lib.hid ((HOwn.out.kept ((((Fr.refl (One b) wr).drewN _).setCell ⟨b, 1, none⟩ (.int .i64 ((j : Int) + 1)) (fun _ => rfl)).trans_same hf2) (fun i hi e => by have e2 : i = b := e; omega)))
              have HB2 := Lib.hid hb2
              clear hFr2 hf2 hb2
              go_wp2_with (first | (at_builtin; go_must (refine wpList_append_byte rfl _ _ rfl w.heap.size _ acc rfl (by exact HO2.out.kept ((Fr.refl (One b) w2).alloc (.cells #[byteV x] 5)) (fun i hi e => by have e2 : i = b := e; omega)) _ _ x rfl (by exact new_cell_at _ _ _ _ (by simp)) (by omega) (by have := HFr2.out.size; simp; omega) ?_); intro v3 w3 hown3 hf3))
              go_roundg (gk - (n + 1))
              case measure => have := HG.out; omega
              case rel =>
                refine ⟨j + 1 + n, acc ++ [x], by omega, by omega, by simp; omega, ?_, ?_, hown3, ?_, by have := HG.out; omega⟩
                · exact hf3.at (at_alloc HB2.out _) (by intro h; have h' : w.heap.size ≤ b := h; omega)
                · exact (HFr2.out.alloc _).trans hf3 (fun i hi h => by have h' : w.heap.size ≤ i := h; omega)
                · refine Lib.hid ?_
                  rw [HT.out, Option.map_map]
                  congr 1; funext p; simp; omega
          · have h4b : ((c.toNat : Int) == 92) = false := byte_ne (d := 92) h4
            have HT := Lib.hid (hT.out.trans (by rw [hl, textRun_byte h1 h2 h4]))
            clear hT hl h2 h1 h4
            go_wp2_with (first | go_quiet (fail) | (at_builtin; go_must (refine wpList_append_byte rfl _ _ rfl w.heap.size _ acc rfl (by exact HOwn.out.kept ((((Fr.refl (One b) wr).drewN _).setCell ⟨b, 1, none⟩ (.int .i64 ((j : Int) + 1)) (fun _ => rfl)).alloc (.cells #[byteV c] 5)) (fun i hi e => by have e2 : i = b := e; omega)) _ _ c rfl (by exact new_cell_at _ _ _ _ (by simp)) (by omega) (by have := HFr.out.size; simp; omega) ?_); intro v2 w2 hown2 hf2))
            go_roundg (gk - 1)
            case measure => have := HG.out; omega
            case rel =>
              refine ⟨j + 1, acc ++ [c], by omega, by omega, by simp; omega, ?_, ?_, hown2, ?_, by have := HG.out; omega⟩
              · exact hf2.at (at_alloc ((SET.out _ _ rfl).trans (by rfl)) _) (by intro h; have h' : w.heap.size ≤ b := h; omega)
              · exact (((HFr.out.drewN _).setCell ⟨b, 1, none⟩ _ (fun _ => rfl)).alloc _).trans hf2 (fun i hi h => by have h' : w.heap.size ≤ i := h; omega)
              · refine Lib.hid ?_
                rw [HT.out, Option.map_map]
                congr 1; funext p; simp; omega
    · have hd : decide ((j : Int) < (s.size : Int)) = false := decide_eq_false (by omega)
      have hF := HBAD.out (by rw [List.drop_eq_nil_of_le (by simp; omega), textRun_end])
      have HF := Lib.hid hF
      clear hF hT
      go_wp2_with (first | go_quiet (fail))
      exact ⟨rfl, HF.out _ (HFr.out.drewN _)⟩
end Go.Proofs.YtbdheihjnkfpiaaGreatDoor
