/-
  Lex at what has been laid and a tail.
-/
import Derived.Test.YtinodapgldbljaaDoorGi
namespace Go.Proofs.YtinodapgldbljaaDoor
open Go Go.RowKit
theorem data_app (o : ByteArray) (l : Bytes) : (o ++ (⟨l.toArray⟩ : ByteArray)).data.toList = o.data.toList ++ l := by
  rw [ByteArray.data_append, Array.toList_append]
theorem size_app (o : ByteArray) (l : Bytes) : (o ++ (⟨l.toArray⟩ : ByteArray)).size = o.size + l.length := by
  rw [ByteArray.size_append']; rfl
/-- Lex at what has been laid and a tail, at a world behind w. -/
theorem lex_app (o : ByteArray) (ps : List (Nat × PT)) (l : Bytes) (w wx : World) (hV : Vars w) (h8 : 8 ≤ w.heap.size) (hs : o.size + l.length ≤ 100000000) (hf : Fr No w wx) (ho : o.data.toList = laidOf ps) (K : List Tok) (p e n : Nat) (hl : lex14 (laidOf ps ++ l) = (K, p, e)) (hn : K.length = n) :
    Calls Tryd.prog 6 #[.string (o ++ ⟨l.toArray⟩)] wx fun en w' => ∃ a cp, en = .returned (.tuple #[.slice a n cp, .int .i64 p, .int .i64 e]) ∧ Toks w' a (K.map Tok.pt) ∧ Fr No w w' ∧ Fr No wx w' :=
  by
  have h1 : (o ++ (⟨l.toArray⟩ : ByteArray)).size ≤ 100000000 := by rw [size_app]; exact hs
  have h2 : lex14 (o ++ (⟨l.toArray⟩ : ByteArray)).data.toList = (K, p, e) := by rw [data_app, ho]; exact hl
  generalize (o ++ (⟨l.toArray⟩ : ByteArray)) = x at h1 h2 ⊢
  exact lex_at x w wx hV h8 h1 hf K p e n h2 hn
theorem lex_end (o : ByteArray) (ps : List (Nat × PT)) (w wx : World) (hV : Vars w) (h8 : 8 ≤ w.heap.size) (hs : o.size ≤ 21000) (hf : Fr No w wx) (ho : o.data.toList = laidOf ps) (K : List Tok) (n : Nat) (hl : lex14 (laidOf ps ++ [47, 42, 32, 42, 47, 32, 47, 47]) = (K, 0, 0)) (hn : K.length = n) :
    Calls Tryd.prog 6 #[.string (o ++ ⟨#[47, 42, 32, 42, 47, 32, 47, 47]⟩)] wx fun en w' => ∃ a cp, en = .returned (.tuple #[.slice a n cp, .int .i64 0, .int .i64 0]) ∧ Toks w' a (K.map Tok.pt) ∧ Fr No w w' ∧ Fr No wx w' :=
  lex_app o ps [47, 42, 32, 42, 47, 32, 47, 47] w wx hV h8 (by simp only [List.length_cons, List.length_nil]; omega) hf ho K 0 0 n hl hn
theorem lex_rest (o : ByteArray) (ps : List (Nat × PT)) (w wx : World) (hV : Vars w) (h8 : 8 ≤ w.heap.size) (hs : o.size ≤ 21000) (hf : Fr No w wx) (ho : o.data.toList = laidOf ps) (p : Nat) (hl : lex14 (laidOf ps ++ [32, 35]) = ([], p, 240)) :
    Calls Tryd.prog 6 #[.string (o ++ ⟨#[32, 35]⟩)] wx fun en w' => ∃ a cp, en = .returned (.tuple #[.slice a 0 cp, .int .i64 p, .int .i64 240]) ∧ Toks w' a (([] : List Tok).map Tok.pt) ∧ Fr No w w' ∧ Fr No wx w' :=
  lex_app o ps [32, 35] w wx hV h8 (by simp only [List.length_cons, List.length_nil]; omega) hf ho [] p 240 0 hl rfl
end Go.Proofs.YtinodapgldbljaaDoor
