/-
  The reader: bytes as digits.
-/
import Derived.Test.YtimglodailhkaaaGreatHb
import Derived.Test.YtimglodailhkaaaGreatNr
import Derived.Lib.OthersKept
import Derived.Laws.OwnMore
namespace Go.Proofs.YtimglodailhkaaaGreat
open Go Go.RowKit
theorem trim_any (s : ByteArray) (hs : s.size ≤ 16777216) (w : World) :
    Calls Tryz.prog 74 #[.string s, .string sixteenB] w fun e w' => e = .returned (.string (strB (Lib.trimS s.data.toList sixteenL))) ∧ Fr No w w' :=
  (Any.strings_Trim_laid Tryz.lays160 (by kernel_rfl) s sixteenB w (by omega) (by decide) (ascii_of_all (by decide))).mono fun e w' ⟨h1, h2⟩ => ⟨h1, Fr.ofBelow h2⟩
theorem make_full (w : World) (y : Bytes) (n : Nat) (hn : n ≤ 140737488355328) : (Instr.makeSlice 24 (.int .i64 n) (.int .i64 n)).run Tryz.prog w = .ok (.slice (some ⟨w.heap.size, 0, none⟩) n n) (w.alloc (.cells (outA y 0 n) 5)) := by
  obtain ⟨i0, hi, hz0, hz1, hz2⟩ := info_parts infoU8
  have h := run_make w 24 5 i0 (.int .u8 0) Tryz.underlying24 hi hz0 .i64 .i64 n n (by omega) (by omega) (by rw [hz2]; omega) (by omega)
  have e : outA y 0 n = madeCells #[.int .u8 0] (n * i0.size) := by
    apply Array.toList_inj.1
    rw [outA_start, toList_madeCells_one, hz1, Nat.mul_one]
    simp
  rw [e]
  exact h
theorem or_16 (o d : Nat) (ho : o < 16) (hd : d < 16) : bits BinOp.or IntKind.u8 (IntKind.u8.wrap ((o : Int) * 16)) (IntKind.u8.wrap (d : Int)) = (16 * (o : Int)) % 256 + (d : Int) := by
  have h : ∀ a b : Fin 16, bits BinOp.or IntKind.u8 (IntKind.u8.wrap ((a.val : Int) * 16)) (IntKind.u8.wrap (b.val : Int)) = (16 * (a.val : Int)) % 256 + (b.val : Int) := by decide +kernel
  exact h ⟨o, ho⟩ ⟨d, hd⟩
theorem Fr.trans_no' {X : Nat → Prop} {a w : World} (h : Fr X a w) (k : Nat) (s : ByteArray) (pos : Nat) (hk : a.heap.size ≤ k) : Fr X a (w.iterAt k s pos) :=
  ⟨h.os, h.tape, h.output, by rw [Lib.iterAt_size]; exact h.size, fun j hj hx => (Lib.iterAt_other w k j s pos (by omega)).trans (h.block j hj hx)⟩
theorem at_alloc {w : World} {b : Nat} {o : Obj} (h : w.heap[b]? = some o) (o' : Obj) : (w.alloc o').heap[b]? = some o := (Below.heap_alloc w o' b (lt_of_block h)).trans h
set_option maxRecDepth 100000 in
set_option maxHeartbeats 2000000 in
theorem rdig_none (r : Nat) (p : Addr) (S : ByteArray) (w : World) (hb : w.heap[r]? = some (.cells #[.string S] TR (0, 0))) (hS : S.data.toList = restOf []) :
    Calls Tryz.prog 69 #[.pointer (some ⟨r, 0, none⟩), .pointer (some p)] w fun e w' => e = .panicked wrongP ∧ w = w' := by
  have HC := Lib.hid (word_none r S w hb hS)
  clear hb hS
  go_enter Tryz.func69, Tryz.ntmps69
  go_wp2_with (go_at_call 73; refine HC.out.mono ?_; rintro e w1 ⟨rfl, rfl⟩)
  exact ⟨rfl, rfl, rfl⟩
set_option maxRecDepth 100000 in
set_option maxHeartbeats 4000000 in
theorem rdig_bad (r : Nat) (p : Addr) (x : Bytes) (t : List Bytes) (S : ByteArray) (w : World) (hb : w.heap[r]? = some (.cells #[.string S] TR (0, 0))) (hS : S.data.toList = restOf (x :: t)) (hx : Plain x) (hlen : S.size ≤ 16777216) (hnum : hexWord x = none) :
    Calls Tryz.prog 69 #[.pointer (some ⟨r, 0, none⟩), .pointer (some p)] w fun e w' => e = .panicked wrongP ∧ Fr (One r) w w' := by
  have HC := Lib.hid (word_some r x t S w hb hS hx)
  have hsz := restSize hS hlen
  obtain ⟨X0, hX0⟩ : ∃ X0, X0 = strB x := ⟨_, rfl⟩
  rw [← hX0] at HC hsz
  have hxd : X0.data.toList = x := by rw [hX0]; rfl
  have hxs : X0.size = x.length := by rw [hX0]; simp [strB, ByteArray.size]
  have h1 : ¬ x = [45] := fun e => by unfold hexWord at hnum; rw [if_pos e] at hnum; cases hnum
  have h2 : x = [] ∨ x.length % 2 = 1 ∨ x.all isHexD = false := by
    unfold hexWord at hnum
    rw [if_neg h1] at hnum
    by_cases h : x = [] ∨ x.length % 2 = 1 ∨ x.all isHexD = false
    · exact h
    · rw [if_neg h] at hnum; cases hnum
  obtain ⟨q1, q1'⟩ := str_eq X0 x [45] hX0
  have t1 := q1.trans (decide_eq_false h1)
  have t1' := q1'.trans (decide_eq_false h1)
  obtain ⟨q2, q2'⟩ := str_eq X0 x [] hX0
  have HF : Hid (∀ wx, Rest r t w wx → Fr (One r) w wx) := Lib.hid (fun wx h => h.fr)
  by_cases h3 : x = []
  · have t2 := q2.trans (decide_eq_true h3)
    have t2' := q2'.trans (decide_eq_true h3)
    clear hb hS hx hlen hnum hX0 hxd h1 h2 h3 q1 q1' q2 q2' hxs
    go_enter Tryz.func69, Tryz.ntmps69
    go_wp2_with (go_at_call 73; refine HC.out.mono ?_; rintro e w1 ⟨rfl, h1⟩; have H1 : Hid (Rest r t w w1) := Lib.hid (by rw [← h1]; exact Fr.refl _ _); clear h1)
    exact ⟨rfl, rfl, HF.out _ H1.out⟩
  · have t2 := q2.trans (decide_eq_false h3)
    have t2' := q2'.trans (decide_eq_false h3)
    rcases Nat.mod_two_eq_zero_or_one x.length with h4 | h4
    · have h5 : x.all isHexD = false := by
        rcases h2 with h | h | h
        · exact absurd h h3
        · omega
        · exact h
      have hrem : Int.tmod (X0.size : Int) 2 = 0 := by rw [hxs, Int.tmod_eq_emod_of_nonneg (by omega)]; omega
      obtain ⟨T, hT⟩ : ∃ T, T = strB (Lib.trimS x sixteenL) := ⟨_, rfl⟩
      have hTne : ¬ Lib.trimS x sixteenL = [] := fun e => by rw [(trim_hex x).1 e] at h5; cases h5
      obtain ⟨q3, q3'⟩ := str_eq T (Lib.trimS x sixteenL) [] hT
      have t3 := q3.trans (decide_eq_false hTne)
      have t3' := q3'.trans (decide_eq_false hTne)
      have HT : Hid (∀ wx, Rest r t w wx → Calls Tryz.prog 74 #[.string X0, .string sixteenB] wx fun e w' => e = .returned (.string T) ∧ Hid (Rest r t w w')) := Lib.hid (fun wx h => (trim_any X0 hsz wx).mono (fun e w' ⟨he, hf⟩ => ⟨by rw [he, hxd, hT], Lib.hid (Fr.trans_no h hf)⟩))
      clear hb hS hx hlen hnum hX0 hxd h1 h2 h3 q1 q1' q2 q2' h4 h5 hT hTne q3 q3' hxs
      go_enter Tryz.func69, Tryz.ntmps69
      go_wp2_with (first | (go_at_call 73; refine HC.out.mono ?_; rintro e w1 ⟨rfl, h1⟩; have H1 : Hid (Rest r t w w1) := Lib.hid (by rw [← h1]; exact Fr.refl _ _); clear h1) | (go_at_call 74; refine (HT.out _ (by exact H1.out)).mono ?_; rintro e w2 ⟨rfl, H2⟩))
      exact ⟨rfl, rfl, HF.out _ H2.out⟩
    · have hrem : Int.tmod (X0.size : Int) 2 = 1 := by rw [hxs, Int.tmod_eq_emod_of_nonneg (by omega)]; omega
      clear hb hS hx hlen hnum hX0 hxd h1 h2 h3 q1 q1' q2 q2' h4 hxs
      go_enter Tryz.func69, Tryz.ntmps69
      go_wp2_with (go_at_call 73; refine HC.out.mono ?_; rintro e w1 ⟨rfl, h1⟩; have H1 : Hid (Rest r t w w1) := Lib.hid (by rw [← h1]; exact Fr.refl _ _); clear h1)
      exact ⟨rfl, rfl, HF.out _ H1.out⟩
set_option maxRecDepth 100000 in
set_option maxHeartbeats 4000000 in
theorem rdig_dash (r : Nat) (p : Addr) (t : List Bytes) (S : ByteArray) (w : World) (hb : w.heap[r]? = some (.cells #[.string S] TR (0, 0))) (hS : S.data.toList = restOf ([45] :: t)) :
    Calls Tryz.prog 69 #[.pointer (some ⟨r, 0, none⟩), .pointer (some p)] w fun e w' => e = .returned (.tuple #[]) ∧ Rest r t w w' := by
  have HC := Lib.hid (word_some r [45] t S w hb hS (by unfold Plain; decide))
  obtain ⟨X0, hX0⟩ : ∃ X0, X0 = strB [45] := ⟨_, rfl⟩
  rw [← hX0] at HC
  obtain ⟨q1, q1'⟩ := str_eq X0 [45] [45] hX0
  have t1 := q1.trans (decide_eq_true rfl)
  have t1' := q1'.trans (decide_eq_true rfl)
  clear hb hS hX0 q1 q1'
  go_enter Tryz.func69, Tryz.ntmps69
  go_wp2_with (go_at_call 73; refine HC.out.mono ?_; rintro e w1 ⟨rfl, h1⟩; have H1 : Hid (Rest r t w w1) := Lib.hid (by rw [← h1]; exact Fr.refl _ _); clear h1)
  exact ⟨rfl, _, results_none rfl _ _ _, rfl, H1.out⟩
set_option maxRecDepth 100000 in
set_option maxHeartbeats 4000000 in
theorem rdig_ok (r : Nat) (p : Addr) (u : Value) (x : Bytes) (t : List Bytes) (bs : Bytes) (S : ByteArray) (w : World) (hb : w.heap[r]? = some (.cells #[.string S] TR (0, 0))) (hS : S.data.toList = restOf (x :: t)) (hx : Plain x) (hlen : S.size ≤ 16777216) (hx45 : ¬ x = [45]) (hnum : hexWord x = some bs) (hp : w.cell? p = some u) (hpf : w.frozen? p = false) (hpb : p.block < w.heap.size) (hpr : p.block ≠ r) :
    Calls Tryz.prog 69 #[.pointer (some ⟨r, 0, none⟩), .pointer (some p)] w fun e w' => e = .returned (.tuple #[]) ∧ ∃ w1 v, Rest r t w w1 ∧ OwnsB w1 w.heap.size v bs ∧ w1.setCell p v = w' := by
  have HC := Lib.hid (word_some r x t S w hb hS hx)
  have hsz := restSize hS hlen
  obtain ⟨X0, hX0⟩ : ∃ X0, X0 = strB x := ⟨_, rfl⟩
  rw [← hX0] at HC hsz
  have hxd : X0.data.toList = x := by rw [hX0]; rfl
  have hxs : X0.size = x.length := by rw [hX0]; simp [strB, ByteArray.size]
  have hbs : bs = bytesOf x := (hexWord_some hnum).2.2 hx45
  have h2 : ¬ x = [] ∧ x.length % 2 = 0 ∧ x.all isHexD = true := by
    unfold hexWord at hnum
    rw [if_neg hx45] at hnum
    by_cases h : x = [] ∨ x.length % 2 = 1 ∨ x.all isHexD = false
    · rw [if_pos h] at hnum; cases hnum
    · refine ⟨fun e => h (.inl e), ?_, ?_⟩
      · rcases Nat.mod_two_eq_zero_or_one x.length with h4 | h4
        · exact h4
        · exact absurd (.inr (.inl h4)) h
      · cases h5 : x.all isHexD
        · exact absurd (.inr (.inr h5)) h
        · rfl
  obtain ⟨h3, h4, h5⟩ := h2
  obtain ⟨q1, q1'⟩ := str_eq X0 x [45] hX0
  have t1 := q1.trans (decide_eq_false hx45)
  have t1' := q1'.trans (decide_eq_false hx45)
  obtain ⟨q2, q2'⟩ := str_eq X0 x [] hX0
  have t2 := q2.trans (decide_eq_false h3)
  have t2' := q2'.trans (decide_eq_false h3)
  have HP : Hid (∀ wx, Rest r t w wx → wx.cell? p = some u ∧ wx.frozen? p = false ∧ p.block < wx.heap.size) := Lib.hid (fun wx hx => ⟨(hx.fr.cell hpb hpr).trans hp, (hx.fr.frozen hpb hpr).trans hpf, Nat.lt_of_lt_of_le hpb hx.fr.size⟩)
  obtain ⟨n, hn⟩ : ∃ n, x.length = 2 * n := ⟨x.length / 2, by omega⟩
  have hn2 : n ≤ 16777216 := by omega
  have hrem : Int.tmod (X0.size : Int) 2 = 0 := by rw [hxs, Int.tmod_eq_emod_of_nonneg (by omega)]; omega
  have hquo : (X0.size : Int) / 2 = (n : Int) := by omega
  have hquo2 : Int.tdiv (X0.size : Int) 2 = (n : Int) := by rw [Int.tdiv_eq_ediv_of_nonneg (by omega)]; exact hquo
  obtain ⟨T, hT⟩ : ∃ T, T = strB [] := ⟨_, rfl⟩
  obtain ⟨q3, q3'⟩ := str_eq T [] [] hT
  have t3 := q3.trans (decide_eq_true rfl)
  have t3' := q3'.trans (decide_eq_true rfl)
  have t3'' : T.toList.isEmpty = true := by rw [List.isEmpty_iff]; exact of_decide_eq_true (by rw [← beq_iff_eq] ; simpa using t3')
  have HT : Hid (∀ wx, Rest r t w wx → Calls Tryz.prog 74 #[.string X0, .string sixteenB] wx fun e w' => e = .returned (.string T) ∧ Hid (Rest r t w w')) := Lib.hid (fun wx h => (trim_any X0 hsz wx).mono (fun e w' ⟨he, hf⟩ => ⟨by rw [he, hxd, (trim_hex x).2 h5, hT], Lib.hid (Fr.trans_no h hf)⟩))
  have hmk := fun (wx : World) => make_full wx x n (by omega)
  obtain ⟨Z, hZ⟩ : ∃ Z, Z = outA x 0 n := ⟨_, rfl⟩
  rw [← hZ] at hmk
  have HX := Lib.hid (And.intro hxd (And.intro hxs (And.intro hn (And.intro h5 (And.intro hbs hZ)))))
  have HPB := Lib.hid hpb
  clear hb hS hx hlen hnum hX0 hxd h3 q1 q1' q2 q2' q3 q3' hT h4 h5 hxs hn hbs hZ hp hpf hpb
  go_enter Tryz.func69, Tryz.ntmps69
  go_wp2_with (first | (go_at_call 73; refine HC.out.mono ?_; rintro e w1 ⟨rfl, h1⟩; have H1 : Hid (Rest r t w w1) := Lib.hid (by rw [← h1]; exact Fr.refl _ _); clear h1) | (go_at_call 74; refine (HT.out _ (by exact H1.out)).mono ?_; rintro e w2 ⟨rfl, H2⟩))
  obtain ⟨G, hG⟩ : ∃ G, G = w2.heap.size := ⟨_, rfl⟩
  rw [← hG]
  have HGG : Hid (w.heap.size ≤ G) := Lib.hid (by rw [hG]; exact H2.out.size)
  have HST : Hid (((w2.alloc (.cells Z 5)).iter X0 0).heap[G]? = some (.cells (outA x 0 n) 5 (0, 0)) ∧ ((w2.alloc (.cells Z 5)).iter X0 0).heap[G + 1]? = some (.stringIter X0 0) ∧ Fr No w2 ((w2.alloc (.cells Z 5)).iter X0 0)) := Lib.hid (by
    have h1 := heap_alloc_new w2 (.cells Z 5)
    refine ⟨?_, ?_, ?_⟩
    · rw [hG, ← HX.out.2.2.2.2.2]; exact at_alloc h1 _
    · have h2 := World.iter_heap (w2.alloc (.cells Z 5)) X0 0
      have e : (w2.alloc (.cells Z 5)).heap.size = w2.heap.size + 1 := by simp
      rw [e] at h2
      rw [hG]; exact h2
    · exact ((Fr.refl _ w2).alloc _).alloc _)
  have HGL : Hid (G = w2.heap.size) := Lib.hid hG
  clear hG
  go_loopg [6] (2 * n) (fun gk v wr => ∃ (i : Nat), i ≤ 2 * n ∧ Hid (wr.heap[G]? = some (.cells (outA x i n) 5 (0, 0)) ∧ wr.heap[G + 1]? = some (.stringIter X0 i) ∧ Fr No w2 wr) ∧ gk + i = 2 * n)
  case atStart => exact ⟨0, by omega, Lib.hid HST.out, by omega⟩
  case round =>
    obtain ⟨i, hi, HR, hg⟩ := hrel
    have HG := Lib.hid hg
    clear hg
    obtain ⟨hR1, hR2, hR3⟩ := HR.out
    by_cases hlt : i < 2 * n
    · have hltX : i < X0.size := by rw [HX.out.2.1, HX.out.2.2.1]; exact hlt
      obtain ⟨c, hc⟩ : ∃ c, X0[i]'hltX = c := ⟨_, rfl⟩
      have hil : i < x.length := by rw [HX.out.2.2.1]; exact hlt
      have hcx : x[i]'hil = c := by
        rw [← hc]
        have h := HX.out.1
        subst h
        simp
        rfl
      have hcd : x.getD i 0 = c := by rw [← hcx]; simp [List.getD, hil]
      have hch : isHexD c = true := by
        have h := HX.out.2.2.2.1
        rw [List.all_eq_true] at h
        exact h c (by rw [← hcx]; exact List.getElem_mem _)
      have hnx := fun ty => Lib.run_next_ascii_at (P := Tryz.prog) wr (G + 1) X0 i ty hR2 hltX (by rw [hc]; exact hex_ascii c hch)
      rw [hc] at hnx
      obtain ⟨Wi, hWi⟩ : ∃ Wi, Wi = wr.iterAt (G + 1) X0 (i + 1) := ⟨_, rfl⟩
      rw [← hWi] at hnx
      have hW1 : Wi.heap[G]? = some (.cells (outA x i n) 5 (0, 0)) := by rw [hWi, Lib.iterAt_other _ _ _ _ _ (by omega)]; exact hR1
      have hW2 : Wi.heap[G + 1]? = some (.stringIter X0 (i + 1)) := by rw [hWi]; exact Lib.iterAt_heap _ _ _ _ _ hR2
      have hW3 : Fr No w2 Wi := by rw [hWi]; exact hR3.trans_no' (G + 1) X0 (i + 1) (by rw [HGL.out]; omega)
      obtain ⟨m, hm⟩ : ∃ m, m = i / 2 := ⟨_, rfl⟩
      have hmn : m < n := by omega
      have hiq : (i : Int) / 2 = (m : Int) := by omega
      have hiq2 : Int.tdiv (i : Int) 2 = (m : Int) := by rw [Int.tdiv_eq_ediv_of_nonneg (by omega)]; exact hiq
      obtain ⟨d, hd⟩ : ∃ d, d = dgN c := ⟨_, rfl⟩
      have hd16 : d < 16 := by rw [hd]; exact dig_lt c
      obtain ⟨o, ho⟩ : ∃ o, o = outF x i m := ⟨_, rfl⟩
      have s1 : Wi.drew.cell? ⟨G, m, none⟩ = some (.int .u8 o.toNat) := by
        show Wi.cell? _ = _
        unfold World.cell?
        rw [hW1]
        show (outA x i n)[m]? = _
        rw [ho]; exact outA_at x i n m hmn
      have s2 : Wi.drew.frozen? ⟨G, m, none⟩ = false := by
        show Wi.frozen? _ = _
        unfold World.frozen?
        rw [hW1]
        simp
      have hmni : (m : Int) < (n : Int) := by omega
      have hltXi : (i : Int) < (X0.size : Int) := by omega
      have HI : Hid (∀ wx, Calls Tryz.prog 75 #[.string sixteenB, .int .u8 c.toNat] wx fun e w' => e = .returned (.int .i64 d) ∧ wx = w') := Lib.hid (fun wx => (Tryz.strings_IndexByte sixteenB c.toNat wx).mono (fun e w' ⟨he, hw⟩ => ⟨by
        rw [he, show sixteenB.data.toList = sixteenL from rfl, show ((c.toNat : Int)).toNat.toUInt8 = c by simp, hex_index c hch, hd], hw.symm⟩))
      have HP6 : sixteenB = ⟨#[48, 49, 50, 51, 52, 53, 54, 55, 56, 57, 97, 98, 99, 100, 101, 102]⟩ := rfl
      obtain ⟨q, hq⟩ : ∃ q, q = outF x (i + 1) m := ⟨_, rfl⟩
      have hnv := outF_next x i
      rw [← hm, ← ho, ← hq, hcd, ← hd] at hnv
      have hv : bits BinOp.or IntKind.u8 (IntKind.u8.wrap ((o.toNat : Int) * 16)) (IntKind.u8.wrap (d : Int)) = (q.toNat : Int) := by rw [hnv.1]; exact or_16 o.toNat d hnv.2 hd16
      have HW3 : Hid ((Wi.setCell ⟨G, m, none⟩ (.int .u8 q.toNat)).drew.heap[G]? = some (.cells (outA x (i + 1) n) 5 (0, 0)) ∧ (Wi.setCell ⟨G, m, none⟩ (.int .u8 q.toNat)).drew.heap[G + 1]? = some (.stringIter X0 (i + 1)) ∧ Fr No w2 (Wi.setCell ⟨G, m, none⟩ (.int .u8 q.toNat)).drew) := Lib.hid ⟨by
          rw [heap_drew, heap_setCell_same Wi G m _ _ _ hW1, hq, hm, outA_step], by
          rw [heap_drew]; exact (heap_setCell_other Wi ⟨G, m, none⟩ (G + 1) _ (by simp)).trans hW2, (hW3.setCell ⟨G, m, none⟩ _ (fun h => absurd h (by rw [HGL.out]; simp))).drew⟩
      have hwm : IntKind.i64.wrap (m : Int) = (m : Int) := IntWalk.i64_in _ (by omega)
      have HWi := Lib.hid hWi
      clear hm hd ho hch hR1 hR2 hWi hq hnv hW1 hW2 hW3 hil hcx hcd
      go_upto_region 8 with fail
      go_region_with (go_at_call 75; refine (HI.out _).mono ?_; rintro e wb ⟨rfl, rfl⟩)
      all_goals
        go_wp2_with fail
        go_roundg (gk - 1)
        case measure => have := HG.out; omega
        case rel => exact ⟨i + 1, by omega, HW3, by have := HG.out; omega⟩
    · have hltX : ¬ i < X0.size := by rw [HX.out.2.1, HX.out.2.2.1]; exact hlt
      have hnx := fun ty => Lib.run_next_end_at (P := Tryz.prog) wr (G + 1) X0 i ty hR2 hltX
      obtain ⟨p1, p2, p3⟩ := HP.out _ H2.out
      have c1 := (hR3.cell p3 (fun h => h)).trans p1
      have c2 := (hR3.frozen p3 (fun h => h)).trans p2
      have c3 := Nat.lt_of_lt_of_le p3 hR3.size
      have HR1 := Lib.hid hR1
      have HR3 := Lib.hid hR3
      clear hR1 hR2 hR3 p1 p2 p3
      go_wp2_with fail
      go_end0
      refine ⟨rfl, wr, _, Fr.trans_no H2.out HR3.out, ?_, rfl⟩
      have hi2 : i = 2 * n := by omega
      have h1 := HR1.out
      rw [hi2] at h1
      have hb := bytesOf_len n x HX.out.2.2.1
      have hbs := HX.out.2.2.2.2.1
      unfold OwnsB
      rw [hbs, hb]
      refine ⟨by simp [hb], .inr ⟨G, n, outA x (2 * n) n, rfl, HGG.out, h1, Nat.le_refl _, by unfold maxLen; omega, by rw [outA_size, Nat.mul_one], ?_⟩⟩
      rw [Nat.mul_one, List.take_of_length_le (by simp [outA]), outA_end x n HX.out.2.2.1]
      rfl
end Go.Proofs.YtimglodailhkaaaGreat
