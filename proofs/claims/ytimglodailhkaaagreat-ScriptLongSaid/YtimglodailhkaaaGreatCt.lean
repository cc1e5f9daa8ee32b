/-
  What Read defers: it catches what the reader gives up with.
-/
import Derived.Test.YtimglodailhkaaaGreatWr
import Derived.Defers
import Derived.Recover
namespace Go.Proofs.YtimglodailhkaaaGreat
open Go Go.RowKit
theorem typeAssert_wrong (w : World) : (Instr.typeAssert (.iface 62 (.agg #[])) 20 62 true).run Tryz.prog w = .ok (.tuple #[.agg #[], .bool true]) w := by kernel_rfl
set_option maxRecDepth 100000 in
set_option maxHeartbeats 2000000 in
theorem catch_wrong (a b : Nat) (v0 v1 v2 v3 v4 : Value) (y : Int) (w : World) (ha : w.heap[a]? = some (.cells #[v0, v1, v2, v3, v4] 28 (0, 0))) (hb : w.heap[b]? = some (.cells #[.int .i64 y] 29 (0, 0))) (hab : a ≠ b) :
    CallsD Tryz.prog 21 #[.pointer (some ⟨a, 0, none⟩), .pointer (some ⟨b, 0, none⟩)] (.panicking wrongP) w fun e u' w' =>
      e = .returned (.tuple #[]) ∧ u' = .panicking [{ v := .iface 62 (.agg #[]), recovered := true }] ∧
      w'.heap[a]? = some (.cells #[.int .i64 0, .int .i64 0, .slice none 0 0, .slice none 0 0, .slice none 0 0] 28 (0, 0)) ∧ w'.heap[b]? = some (.cells #[.int .i64 411] 29 (0, 0)) ∧ Fr (Two a b) w w' := by
  obtain ⟨⟨p0, p1, p2, p3, p4⟩, ⟨f0, f1, f2, f3, f4⟩⟩ := res_cells ha
  have hb0 := cell_of_one hb
  have hb1 := free_of_one hb
  have hla := lt_of_block ha
  have hlb := lt_of_block hb
  unfold wrongP
  refine callsD_of_wpS Tryz.func21 rfl fun c₀ cs hu => ?_
  apply wpS_seq
  apply wpS_region
  simp only [Tryz.ntmps21, List.size_toArray, List.length_cons, List.length_nil, Nat.reduceAdd, Nat.reduceSub, Array.replicate_succ, Array.replicate_zero, List.push_toArray, List.append_toArray, List.nil_append, List.cons_append]
  simp [wpOpsS, go_sem, recoverD, hu, Exit.thenS]
  refine wpS_of_wp ?_
  clear hu
  have hta := typeAssert_wrong
  go_wp2_with (go_region)
  have h0 : (w.setCell ⟨a, 0, none⟩ (.int .i64 0)).heap[a]? = some (.cells #[.int .i64 0, v1, v2, v3, v4] 28 (0, 0)) := heap_setCell_same w a 0 _ _ _ ha
  have h1 := heap_setCell_same _ a 1 _ _ (.int .i64 0) h0
  have h2 := heap_setCell_same _ a 2 _ _ (.slice none 0 0) h1
  have h3 := heap_setCell_same _ a 3 _ _ (.slice none 0 0) h2
  have h4 := heap_setCell_same _ a 4 _ _ (.slice none 0 0) h3
  have g0 := (heap_setCell_other w ⟨a, 0, none⟩ b (.int .i64 0) (fun e => hab e.symm)).trans hb
  have g1 := (heap_setCell_other _ ⟨a, 1, none⟩ b (.int .i64 0) (fun e => hab e.symm)).trans g0
  have g2 := (heap_setCell_other _ ⟨a, 2, none⟩ b (.slice none 0 0) (fun e => hab e.symm)).trans g1
  have g3 := (heap_setCell_other _ ⟨a, 3, none⟩ b (.slice none 0 0) (fun e => hab e.symm)).trans g2
  have g4 := (heap_setCell_other _ ⟨a, 4, none⟩ b (.slice none 0 0) (fun e => hab e.symm)).trans g3
  have g5 := one_setCell (u := .int .i64 411) g4
  have h5 := (heap_setCell_other _ ⟨b, 0, none⟩ a (.int .i64 411) hab).trans h4
  have hf : Fr (Two a b) w _ := (((((((Fr.refl (Two a b) w).setCell ⟨a, 0, none⟩ (.int .i64 0) (fun _ => .inl rfl)).setCell ⟨a, 1, none⟩ (.int .i64 0) (fun _ => .inl rfl)).setCell ⟨a, 2, none⟩ (.slice none 0 0) (fun _ => .inl rfl)).setCell ⟨a, 3, none⟩ (.slice none 0 0) (fun _ => .inl rfl)).setCell ⟨a, 4, none⟩ (.slice none 0 0) (fun _ => .inl rfl)).setCell ⟨b, 0, none⟩ (.int .i64 411) (fun _ => .inr rfl)).alloc (.cells #[] 62)
  have hn := (Fr.refl No ((((((w.setCell ⟨a, 0, none⟩ (.int .i64 0)).setCell ⟨a, 1, none⟩ (.int .i64 0)).setCell ⟨a, 2, none⟩ (.slice none 0 0)).setCell ⟨a, 3, none⟩ (.slice none 0 0)).setCell ⟨a, 4, none⟩ (.slice none 0 0)).setCell ⟨b, 0, none⟩ (.int .i64 411))).alloc (.cells #[] 62)
  exact ⟨rfl, _, rfl, _, results_none rfl _ _ _, rfl, rfl, hn.at h5 (fun h => h), hn.at g5 (fun h => h), hf⟩
set_option maxRecDepth 100000 in
set_option maxHeartbeats 2000000 in
theorem catch_idle (a b : Addr) (w : World) :
    CallsD Tryz.prog 21 #[.pointer (some a), .pointer (some b)] .returning w fun e u' w' => e = .returned (.tuple #[]) ∧ u' = .returning ∧ w = w' := by
  refine callsD_of_wpS Tryz.func21 rfl fun c₀ cs hu => ?_
  apply wpS_seq
  apply wpS_region
  simp only [Tryz.ntmps21, List.size_toArray, List.length_cons, List.length_nil, Nat.reduceAdd, Nat.reduceSub, Array.replicate_succ, Array.replicate_zero, List.push_toArray, List.append_toArray, List.nil_append, List.cons_append]
  simp [wpOpsS, go_sem, recoverD, hu, Exit.thenS]
  refine wpS_of_wp ?_
  go_wp2_with fail
  exact ⟨rfl, _, by cases c₀; simp_all, _, results_none rfl _ _ _, rfl, rfl, rfl⟩
end Go.Proofs.YtimglodailhkaaaGreat
