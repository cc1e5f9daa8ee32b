/-
  Lex walked: the tokens, or the place and the error.
-/
import Derived.Test.YtbdheihjnkfpiaaGreatDoorWo
namespace Go.Proofs.YtbdheihjnkfpiaaGreatDoor
open Go Go.RowKit
theorem lex14_long {s : Bytes} (h : maxText < s.length) : lex14 s = ([], 0, 3) := by unfold lex14 some14; rw [if_pos h]; rfl
theorem lex14_ok {s : Bytes} {l : List Tok} (h : ¬ maxText < s.length) (hl : lexFrom 0 s = (l, none)) : lex14 s = (l, 0, 0) := by unfold lex14 some14; rw [if_neg h, hl]; rfl
theorem lex14_bad {s : Bytes} {l : List Tok} {p e : Nat} (h : ¬ maxText < s.length) (hl : lexFrom 0 s = (l, some (p, e))) : lex14 s = ([], p, e) := by
  have he := lexFrom_err _ s (Nat.le_refl _) 0 p e (by rw [hl])
  unfold lex14 some14; rw [if_neg h, hl]
  dsimp only
  rw [if_neg (by omega)]
/-- Lex: P14.1. -/
def LexPost (s : Bytes) (w : World) (e : Ending) (w' : World) : Prop :=
  ∃ v, e = .returned (.tuple #[v, .int .i64 (lex14 s).2.1, .int .i64 (lex14 s).2.2]) ∧ OwnsT w' w.heap.size v (lex14 s).1 ∧ Fr No w w'
set_option maxRecDepth 100000 in
set_option maxHeartbeats 4000000 in
theorem Lex_any (s : ByteArray) (w : World) (hV : Vars w) (h16 : 8 ≤ w.heap.size) (hm : s.size ≤ maxLen) :
    Calls Tryz.prog 7 #[.string s] w (LexPost s.data.toList w) := by
  have hlen : s.data.toList.length = s.size := by simp
  have HM := Lib.hid hm
  clear hm
  by_cases hlong : 1048576 < s.size
  · have HF : Hid (∀ w', Fr No w w' → LexPost s.data.toList w (.returned (.tuple #[.slice none 0 0, .int .i64 0, .int .i64 3])) w') := fun w' hf => by
      have e := lex14_long (s := s.data.toList) (by unfold maxText; omega)
      exact ⟨.slice none 0 0, by rw [e]; rfl, by rw [e]; exact OwnsT.nil _ _, hf⟩
    have HL := Lib.hid hlong
    clear hlong hlen
    have hmf : ∀ (fn : Fn) (first cap : Array Value) (w : World), (Instr.makeFunc fn first cap).run Tryz.prog w = .ok (.func fn first cap) w := fun _ _ _ _ => rfl
    go_enter Tryz.func7, Tryz.ntmps7
    go_wp2_with (go_at_call 21; refine (read_long _ s _ HL.out HM.out).mono ?_; rintro e w2 ⟨rfl, hf2⟩)
    go_ret3
    exact HF.out _ (((Fr.refl _ _).alloc _).trans_no hf2)
  · obtain ⟨T, hT⟩ : ∃ T, T = lexFrom 0 s.data.toList := ⟨_, rfl⟩
    have hmf : ∀ (fn : Fn) (first cap : Array Value) (w : World), (Instr.makeFunc fn first cap).run Tryz.prog w = .ok (.func fn first cap) w := fun _ _ _ _ => rfl
    have hen : ∀ args w, (callFunc 22 args).run Tryz.prog w = .ok (.enter 22 args) w := enters_of Tryz.func22 (by kernel_rfl) rfl
    have HR := Lib.hid (fun (c : Nat) (wx : World) hc h16 hV => read_any 22 hen c s wx T (fun base t v ts wx h1 h2 h3 h4 h5 => give_Lex t c base v ts wx h1 h2 h3 h4 h5) hc h16 hV (by omega) hT)
    have HT := Lib.hid (And.intro hT (show ¬ maxText < s.data.toList.length by unfold maxText; omega))
    have HV := Lib.hid hV
    clear hT hen hV hlong hlen
    go_enter Tryz.func7, Tryz.ntmps7
    go_wp2_with fail
    refine (HR.out w.heap.size _ (by exact heap_alloc_new w _) h16 (by exact HV.out.kept_no ((Fr.refl _ _).alloc _))).mono ?_
    rintro e w2 ⟨v2, k1, k2, k3, k4⟩
    have hf : Fr No w w2 := ((Fr.refl _ _).alloc _).trans k3 (fun i hi e => by have e2 : i = w.heap.size := e; omega)
    have hown : OwnsT w2 w.heap.size v2 T.1 := owns_base k2 (by simp)
    obtain ⟨va, vn, vc, rfl⟩ := k2.shape
    have c1 := cell_of_one k1
    have HK := Lib.hid (And.intro hf hown)
    clear hf hown k1 k2 k3
    cases hT2 : T.2 with
    | none =>
      rw [hT2] at k4
      dsimp only at k4
      subst k4
      have hT3 : T = (T.1, none) := by rw [← hT2]
      have e1 := lex14_ok HT.out.2 (HT.out.1.symm.trans hT3)
      have HF := Lib.hid (show LexPost s.data.toList w (.returned (.tuple #[.slice va vn vc, .int .i64 0, .int .i64 0])) w2 from ⟨_, by rw [e1]; rfl, by rw [e1]; exact HK.out.2, HK.out.1⟩)
      clear hT2 hT3 e1
      go_wp2_with fail
      go_ret3
      exact HF.out
    | some pe =>
      obtain ⟨p, er⟩ := pe
      rw [hT2] at k4
      dsimp only at k4
      subst k4
      have hT3 : T = (T.1, some (p, er)) := by rw [← hT2]
      have her := lexFrom_err _ s.data.toList (Nat.le_refl _) 0 p er (by rw [← HT.out.1, hT2])
      have e1 := lex14_bad HT.out.2 (HT.out.1.symm.trans hT3)
      have HF := Lib.hid (show LexPost s.data.toList w (.returned (.tuple #[.slice none 0 0, .int .i64 p, .int .i64 er])) w2 from ⟨_, by rw [e1], by rw [e1]; exact OwnsT.nil _ _, HK.out.1⟩)
      have hne : ((er : Int) != 0) = true := by simp; omega
      clear hT2 hT3 e1 her
      go_wp2_with fail
      go_ret3
      exact HF.out
end Go.Proofs.YtbdheihjnkfpiaaGreatDoor
