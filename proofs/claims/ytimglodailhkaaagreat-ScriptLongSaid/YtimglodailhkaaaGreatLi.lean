/-
  script.Line walked.
-/
import Derived.Test.YtimglodailhkaaaGreatTo
namespace Go.Proofs.YtimglodailhkaaaGreat
open Go Go.RowKit
set_option maxHeartbeats 4000000 in
set_option maxRecDepth 100000 in
theorem sline_any (v : Value) (e : Ev) (w : World) (hv : EvAt w v e) (he : e.small) (hn : e.nums) (ht : TabE e w) :
    Calls Tryz.prog 6 #[v] w fun en w' => en = .returned (.tuple #[.string (if may31 e = true then strB (line31 e) else strB []), .int .i64 (if may31 e = true then 0 else 410)]) ∧ Fr No w w' := by
  have hv0 := hv
  obtain ⟨a1, c1, a2, c2, a3, c3, rfl, x1, x2, x3⟩ := hv.form
  clear hv x1 x2 x3
  have HCH := Lib.hid (fun wx (hx : Fr No w wx) => check_any _ e wx (hv0.no hx) he)
  have HTO := Lib.hid (fun wx (hx : Fr No w wx) (hm : may31 e = true) => told_any _ e wx (hv0.no hx) hm hn (ht.fr hx))
  obtain ⟨k, hk⟩ : ∃ k, e.kind = k := ⟨_, rfl⟩
  obtain ⟨cn, hcn⟩ : ∃ cn, e.conn = cn := ⟨_, rfl⟩
  obtain ⟨n1, h1⟩ : ∃ n, e.bytes.length = n := ⟨_, rfl⟩
  obtain ⟨n2, h2⟩ : ∃ n, e.fates.length = n := ⟨_, rfl⟩
  obtain ⟨n3, h3⟩ : ∃ n, e.picks.length = n := ⟨_, rfl⟩
  rw [hk, hcn, h1, h2, h3] at HCH HTO ⊢
  clear hk hcn h1 h2 h3 hv0 he hn ht
  obtain ⟨W0, hW0⟩ : ∃ W0, W0 = w.alloc (.cells #[.int .i64 k, .int .i64 cn, .slice a1 n1 c1, .slice a2 n2 c2, .slice a3 n3 c3] 28) := ⟨_, rfl⟩
  have hE : W0.heap[w.heap.size]? = some (.cells #[.int .i64 k, .int .i64 cn, .slice a1 n1 c1, .slice a2 n2 c2, .slice a3 n3 c3] 28 (0, 0)) := by rw [hW0]; exact heap_alloc_new w _
  have HF0 : Hid (Fr No w W0) := Lib.hid (by rw [hW0]; exact (Fr.refl _ _).alloc _)
  have HE := Lib.hid hE
  obtain ⟨⟨p0, p1, p2, p3, p4⟩, _⟩ := res_cells hE
  clear hE
  cases hm : may31 e
  · have HM := Lib.hid hm
    rw [hm] at HCH
    clear hm
    go_enter Tryz.func6, Tryz.ntmps6
    go_upto_region 1 with fail
    rw [← hW0]
    clear hW0
    go_wp2_with (go_at_call 10; refine (HCH.out _ (by exact HF0.out)).mono ?_; rintro en w1 ⟨rfl, hf⟩; have HF1 := Lib.hid hf; clear hf)
    go_ret2
    exact ⟨rfl, HF0.out.trans_same HF1.out⟩
  · have HM := Lib.hid hm
    rw [hm] at HCH
    clear hm
    go_enter Tryz.func6, Tryz.ntmps6
    go_upto_region 1 with fail
    rw [← hW0]
    clear hW0
    go_wp2_with (first | (go_at_call 10; refine (HCH.out _ (by exact HF0.out)).mono ?_; rintro en w1 ⟨rfl, hf⟩; obtain ⟨⟨q0, q1, q2, q3, q4⟩, _⟩ := res_cells (hf.at HE.out (fun h => h)); have HF1 := Lib.hid (HF0.out.trans_same hf); clear hf p0 p1 p2 p3 p4) | (go_at_call 15; refine (HTO.out _ (by exact HF1.out) (by exact HM.out)).mono ?_; rintro en w2 ⟨rfl, hf⟩; have HF2 := Lib.hid (HF1.out.trans_same hf); clear hf))
    go_ret2
    exact ⟨rfl, HF2.out⟩
end Go.Proofs.YtimglodailhkaaaGreat
