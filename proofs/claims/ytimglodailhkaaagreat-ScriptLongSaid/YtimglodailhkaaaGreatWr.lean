/-
  The reader: a word, a number.
-/
import Derived.Test.YtimglodailhkaaaGreatPa
import Derived.Test.YtimglodailhkaaaGreatIt
import Derived.OneCell
namespace Go.Proofs.YtimglodailhkaaaGreat
open Go Go.RowKit
abbrev TR : TypeId := 70
/-- The panic with which the reader gives up. -/
def wrongP : List PanicEntry := [{ v := .iface 62 (.agg #[]), recovered := false }]
theorem index_plain : ∀ (x : Bytes) (t : List Bytes), Plain x → Lib.indexByte (x ++ restOf t) 32 = if t = [] then -1 else (x.length : Int) := by
  intro x
  induction x with
  | nil =>
    intro t _
    cases t with
    | nil => rfl
    | cons y t =>
      rw [restOf_cons, if_neg (by simp)]
      show Lib.indexByte (32 :: (y ++ restOf t)) 32 = 0
      unfold Lib.indexByte
      rw [if_pos (by rfl)]
  | cons b x ih =>
    intro t h
    have hb : ¬ b = 32 := fun e => h (by subst e; simp)
    have ih' := ih t (fun hx => h (by simp [hx]))
    rw [List.cons_append]
    unfold Lib.indexByte
    rw [if_neg (by simpa using hb), ih']
    cases t with
    | nil => rfl
    | cons y t =>
      rw [if_neg (by simp), if_neg (by simp), if_neg (by simp)]
      simp
theorem trim_rest (x : Bytes) (t : List Bytes) : Lib.trimPrefix (restOf (x :: t)) [32] = x ++ restOf t := by
  rw [restOf_cons]
  simp [Lib.trimPrefix, Lib.hasPrefix, List.isPrefixOf]
theorem has_rest (x : Bytes) (t : List Bytes) : Lib.hasPrefix (restOf (x :: t)) [32] = true := by
  rw [restOf_cons]
  simp [Lib.hasPrefix, List.isPrefixOf]
theorem cut_front (Y : ByteArray) (x l : Bytes) (h : Y.data.toList = x ++ l) : Y.extract 0 x.length = ⟨x.toArray⟩ := by
  apply ByteArray.ext
  apply Array.toList_inj.1
  rw [ByteArray.data_extract, Array.toList_extract, h]
  simp
theorem cut_rear (Y : ByteArray) (x l : Bytes) (h : Y.data.toList = x ++ l) : Y.extract x.length Y.size = ⟨l.toArray⟩ := by
  have hs : Y.size = x.length + l.length := by
    show Y.data.size = _
    rw [← Array.length_toList, h, List.length_append]
  apply ByteArray.ext
  apply Array.toList_inj.1
  rw [ByteArray.data_extract, Array.toList_extract, h, hs]
  simp
def strB (l : Bytes) : ByteArray := ⟨l.toArray⟩
set_option maxRecDepth 100000 in
set_option maxHeartbeats 2000000 in
theorem word_some (r : Nat) (x : Bytes) (t : List Bytes) (S : ByteArray) (w : World) (hb : w.heap[r]? = some (.cells #[.string S] TR (0, 0))) (hS : S.data.toList = restOf (x :: t)) (hx : Plain x) :
    Calls Tryz.prog 73 #[.pointer (some ⟨r, 0, none⟩)] w fun e w' => e = .returned (.string (strB x)) ∧ w.setCell ⟨r, 0, none⟩ (.string (strB (restOf t))) = w' := by
  have c0 := cell_of_one hb
  have f0 := free_of_one hb
  have hrl := lt_of_block hb
  obtain ⟨Y, hY⟩ : ∃ Y : ByteArray, Y = ⟨(x ++ restOf t).toArray⟩ := ⟨_, rfl⟩
  have hYd : Y.data.toList = x ++ restOf t := by rw [hY]
  have hYs : Y.size = x.length + (restOf t).length := by
    show Y.data.size = _
    rw [← Array.length_toList, hYd, List.length_append]
  have hSs : S.size = Y.size + 1 := by
    show S.data.size = _
    rw [← Array.length_toList, hS, restOf_cons, hYs]
    simp
  have HC : Hid (∀ wx, Calls Tryz.prog 78 #[.string S, .string ⟨#[32]⟩] wx fun e w' => e = .returned (.tuple #[.string Y, .bool true]) ∧ wx = w') := Lib.hid (fun wx => (Tryz.strings_CutPrefix S ⟨#[32]⟩ wx).mono (fun e w' ⟨he, hw⟩ => ⟨by
    rw [he, hS, show (⟨#[32]⟩ : ByteArray).data.toList = [32] from rfl, trim_rest, has_rest, hY], hw.symm⟩))
  obtain ⟨X0, hX0⟩ : ∃ X0, X0 = strB x := ⟨_, rfl⟩
  obtain ⟨Z, hZ⟩ : ∃ Z, Z = strB (restOf t) := ⟨_, rfl⟩
  have e1 : Y.extract 0 x.length = X0 := by rw [hX0]; exact cut_front Y x _ hYd
  have e2 : Y.extract x.length Y.size = Z := by rw [hZ]; exact cut_rear Y x _ hYd
  rw [← hX0, ← hZ]
  have hidx := index_plain x t hx
  have HI0 := fun wx => Tryz.strings_IndexByte Y 32 wx
  rw [hYd, show (32 : Int).toNat.toUInt8 = 32 from rfl, hidx] at HI0
  obtain ⟨k, hk⟩ : ∃ k, x.length = k := ⟨_, rfl⟩
  rw [hk] at e1 e2 hYs HI0
  by_cases ht : t = []
  · subst ht
    have hks : k = Y.size := by rw [hYs]; simp [restOf]
    rw [hks] at e1 e2
    have HI : Hid (∀ wx, Calls Tryz.prog 75 #[.string Y, .int .u8 32] wx fun e w' => e = .returned (.int .i64 (-1)) ∧ wx = w') := Lib.hid (fun wx => (HI0 wx).mono (fun e w' ⟨he, hw⟩ => ⟨by rw [he, if_pos rfl], hw.symm⟩))
    have HZE : Hid (Z = ByteArray.empty) := Lib.hid (by rw [hZ]; rfl)
    clear HI0 hX0 hZ hS hx hY hYd hk hks hYs hSs hidx hb
    go_enter Tryz.func73, Tryz.ntmps73
    go_wp2_with (first | (go_at_call 78; refine (HC.out _).mono ?_; rintro e w1 ⟨rfl, rfl⟩) | (go_at_call 75; refine (HI.out _).mono ?_; rintro e w1 ⟨rfl, rfl⟩))
    go_ret
    exact ⟨rfl, by rw [HZE.out]⟩
  · have HI : Hid (∀ wx, Calls Tryz.prog 75 #[.string Y, .int .u8 32] wx fun e w' => e = .returned (.int .i64 k) ∧ wx = w') := Lib.hid (fun wx => (HI0 wx).mono (fun e w' ⟨he, hw⟩ => ⟨by rw [he, if_neg ht], hw.symm⟩))
    have hkY : (k : Int) ≤ (Y.size : Int) := by omega
    have hk0 : ¬ (k : Int) < 0 := by omega
    have hk1 : (0 : Int) ≤ (k : Int) := by omega
    clear HI0 hX0 hZ hS hx hY hYd hk hYs hSs hidx hb ht
    go_enter Tryz.func73, Tryz.ntmps73
    go_wp2_with (first | (go_at_call 78; refine (HC.out _).mono ?_; rintro e w1 ⟨rfl, rfl⟩) | (go_at_call 75; refine (HI.out _).mono ?_; rintro e w1 ⟨rfl, rfl⟩))
    go_ret
    exact ⟨rfl, rfl⟩
set_option maxRecDepth 100000 in
set_option maxHeartbeats 2000000 in
theorem word_none (r : Nat) (S : ByteArray) (w : World) (hb : w.heap[r]? = some (.cells #[.string S] TR (0, 0))) (hS : S.data.toList = restOf []) :
    Calls Tryz.prog 73 #[.pointer (some ⟨r, 0, none⟩)] w fun e w' => e = .panicked wrongP ∧ w = w' := by
  have c0 := cell_of_one hb
  have f0 := free_of_one hb
  have hrl := lt_of_block hb
  have HC : Hid (∀ wx, Calls Tryz.prog 78 #[.string S, .string ⟨#[32]⟩] wx fun e w' => e = .returned (.tuple #[.string S, .bool false]) ∧ wx = w') := Lib.hid (fun wx => (Tryz.strings_CutPrefix S ⟨#[32]⟩ wx).mono (fun e w' ⟨he, hw⟩ => ⟨by
    have e0 : Lib.trimPrefix S.data.toList [32] = S.data.toList := by rw [hS]; rfl
    have e1 : (⟨(Lib.trimPrefix S.data.toList [32]).toArray⟩ : ByteArray) = S := by rw [e0, Array.toArray_toList]
    have e2 : Lib.hasPrefix S.data.toList [32] = false := by rw [hS]; rfl
    rw [he, show (⟨#[32]⟩ : ByteArray).data.toList = [32] from rfl, e1, e2], hw.symm⟩))
  clear hS hb
  go_enter Tryz.func73, Tryz.ntmps73
  go_wp2_with (go_at_call 78; refine (HC.out _).mono ?_; rintro e w1 ⟨rfl, rfl⟩)
  exact ⟨rfl, rfl, rfl⟩
end Go.Proofs.YtimglodailhkaaaGreat
