/-
  The reader's line: the words of an event behind its head.
-/
import Derived.Test.YtimglodailhkaaaGreatPk
import Derived.Test.YtimglodailhkaaaGreatTl
namespace Go.Proofs.YtimglodailhkaaaGreat
open Go Go.RowKit
/-- The event that is read behind a head, and the words that are left. -/
def lread (k : Int) (t : List Bytes) : Option (Ev × List Bytes) :=
  if k = 1 then some (⟨1, 0, [], [], []⟩, t)
  else if k = 2 then (match t with | x :: y :: l => (match numWord x with | none => none | some n => (hexWord y).map fun b => (⟨2, n, b, [], []⟩, l)) | _ => none)
  else if k = 3 then (match t with | x :: l => (numWord x).map fun n => (⟨3, n, [], [], []⟩, l) | [] => none)
  else if k = 4 then (sfates t).map fun fs => (⟨4, 0, [], fs, []⟩, [])
  else (spicks t).map fun ps => (⟨5, 0, [], [], ps⟩, [])
theorem lread_body (k : Int) (t : List Bytes) (h1 : 1 ≤ k) (h5 : k ≤ 5) : sbody k t = match lread k t with | some (e, []) => some e | _ => none := by
  have hk : k = 1 ∨ k = 2 ∨ k = 3 ∨ k = 4 ∨ k = 5 := by omega
  rcases hk with rfl | rfl | rfl | rfl | rfl
  · cases t <;> rfl
  · match t with
    | [] => rfl
    | [_] => rfl
    | [x, y] =>
      show (match numWord x with | none => none | some n => (hexWord y).map fun b => (⟨2, n, b, [], []⟩ : Ev)) = _
      unfold lread
      rw [if_neg (by decide), if_pos rfl]
      dsimp only
      cases numWord x with
      | none => rfl
      | some n => dsimp only; cases hexWord y <;> rfl
    | x :: y :: z :: l =>
      show none = _
      unfold lread
      rw [if_neg (by decide), if_pos rfl]
      dsimp only
      cases numWord x with
      | none => rfl
      | some n => dsimp only; cases hexWord y <;> rfl
  · match t with
    | [] => rfl
    | [x] =>
      show ((numWord x).map fun n => (⟨3, n, [], [], []⟩ : Ev)) = _
      unfold lread
      rw [if_neg (by decide), if_neg (by decide), if_pos rfl]
      dsimp only
      cases numWord x <;> rfl
    | x :: y :: l =>
      show none = _
      unfold lread
      rw [if_neg (by decide), if_neg (by decide), if_pos rfl]
      dsimp only
      cases numWord x <;> rfl
  · show ((sfates t).map fun fs => (⟨4, 0, [], fs, []⟩ : Ev)) = _
    unfold lread
    rw [if_neg (by decide), if_neg (by decide), if_neg (by decide), if_pos rfl]
    cases sfates t <;> rfl
  · show ((spicks t).map fun fs => (⟨5, 0, [], [], fs⟩ : Ev)) = _
    unfold lread
    rw [if_neg (by decide), if_neg (by decide), if_neg (by decide), if_neg (by decide)]
    cases spicks t <;> rfl
/-- Where the reader of a line stands. -/
structure ES (w : World) (E r : Nat) (e : Ev) (vb vf vp : Value) (t : List Bytes) (W : World) : Prop where
  ev : W.heap[E]? = some (.cells #[.int .i64 e.kind, .int .i64 e.conn, vb, vf, vp] 28 (0, 0))
  rd : W.heap[r]? = some (.cells #[.string (strB (restOf t))] TR (0, 0))
  ob : OwnsB W w.heap.size vb e.bytes
  of : W.ownsRow w.heap.size 78 2 vf e.fates.length (fateCs e.fates)
  op : W.ownsRow w.heap.size 3 1 vp e.picks.length (intCs e.picks)
  fr : Fr (Two E r) w W
  er : E ≠ r
def LPost (w : World) (E r : Nat) (o : Option (Ev × List Bytes)) (e : Ending) (w' : World) : Prop :=
  match o with
  | none => e = .panicked wrongP ∧ Fr (Two E r) w w' ∧ Shape E w'
  | some p => e = .returned (.tuple #[]) ∧ ∃ vb vf vp, ES w E r p.1 vb vf vp p.2 w'
theorem Fr.ofDrew {X : Nat → Prop} {w w' : World} (h : Fr X w.drew w') : Fr X w w' := ((Fr.refl X w).drew).trans_same h
/-- A number's word, and what is left. -/
def oneNum (t : List Bytes) : Option (Int × List Bytes) := match t with | [] => none | x :: l => (numWord x).map fun n => (n, l)
def oneHex (t : List Bytes) : Option (Bytes × List Bytes) := match t with | [] => none | x :: l => (hexWord x).map fun n => (n, l)
theorem rnum_conn {TT BB : Prop} (W0 : World) (hv : Vars TT BB W0) (E r : Nat) (k : Int) (t : List Bytes) (w : World) (hw : Below W0.heap.size W0 w) (hr : W0.heap.size ≤ r) (her : E ≠ r)
    (he : w.heap[E]? = some (.cells #[.int .i64 k, .int .i64 0, .slice none 0 0, .slice none 0 0, .slice none 0 0] 28 (0, 0))) (hrd : w.heap[r]? = some (.cells #[.string (strB (restOf t))] TR (0, 0))) (ht : ∀ x ∈ t, Plain x) (hA : ∀ x ∈ t, Asks TT (oneNum t = none → BB) x) (hlen : (restOf t).length ≤ 16777216) :
    Calls Tryz.prog 71 #[.pointer (some ⟨r, 0, none⟩), .pointer (some ⟨E, 1, none⟩)] w fun e w' => match oneNum t with
      | none => e = .panicked wrongP ∧ Fr (Two E r) w w' ∧ Shape E w'
      | some p => e = .returned (.tuple #[]) ∧ Fr (Two E r) w w' ∧ w'.heap[E]? = some (.cells #[.int .i64 k, .int .i64 p.1, .slice none 0 0, .slice none 0 0, .slice none 0 0] 28 (0, 0)) ∧ w'.heap[r]? = some (.cells #[.string (strB (restOf p.2))] TR (0, 0)) := by
  obtain ⟨⟨_, p1, _, _, _⟩, ⟨_, f1, _, _, _⟩⟩ := res_cells he
  cases t with
  | nil =>
    refine (rnum_none r ⟨E, 1, none⟩ _ w hrd rfl).mono ?_
    rintro e w' ⟨h1, h2⟩
    exact ⟨h1, by rw [← h2]; exact ⟨Fr.refl _ _, _, _, _, _, _, he⟩⟩
  | cons x l =>
    have hs : (strB (restOf (x :: l))).size ≤ 16777216 := by rw [strB_size]; exact hlen
    cases hn : numWord x with
    | none =>
      refine (rnum_bad W0 hv r ⟨E, 1, none⟩ x l _ w hw hr hrd rfl (ht x (by simp)) ⟨(hA x (by simp)).big, fun h => (hA x (by simp)).bad h (by unfold oneNum; dsimp only; rw [hn]; rfl)⟩ hs hn).mono ?_
      rintro e w' ⟨h1, h2⟩
      unfold oneNum
      dsimp only
      rw [hn]
      exact ⟨h1, h2.mono (fun _ _ h => .inr h), _, _, _, _, _, h2.at he her⟩
    | some n =>
      refine (rnum_ok W0 hv r ⟨E, 1, none⟩ _ x l n _ w hw hr hrd rfl (ht x (by simp)) (Asks.num (hA x (by simp)) hn) hs hn p1 f1 (lt_of_block he) her).mono ?_
      rintro e w' ⟨h1, w1, h2, h3⟩
      unfold oneNum
      dsimp only
      rw [hn]
      have he1 := h2.fr.at he her
      refine ⟨h1, ?_, ?_, ?_⟩
      · rw [← h3]
        exact (h2.fr.mono (fun _ _ h => .inr h)).setCell _ _ (fun _ => .inl rfl)
      · rw [← h3]; exact heap_setCell_same w1 E 1 _ _ _ he1
      · rw [← h3]; exact (heap_setCell_other w1 ⟨E, 1, none⟩ r _ (fun e => her e.symm)).trans (h2.blk hrd)
theorem rdig_bytes (E r : Nat) (k cn : Int) (t : List Bytes) (w : World) (her : E ≠ r)
    (he : w.heap[E]? = some (.cells #[.int .i64 k, .int .i64 cn, .slice none 0 0, .slice none 0 0, .slice none 0 0] 28 (0, 0))) (hrd : w.heap[r]? = some (.cells #[.string (strB (restOf t))] TR (0, 0))) (ht : ∀ x ∈ t, Plain x) (hlen : (restOf t).length ≤ 16777216) :
    Calls Tryz.prog 69 #[.pointer (some ⟨r, 0, none⟩), .pointer (some ⟨E, 2, none⟩)] w fun e w' => match oneHex t with
      | none => e = .panicked wrongP ∧ Fr (Two E r) w w' ∧ Shape E w'
      | some p => e = .returned (.tuple #[]) ∧ Fr (Two E r) w w' ∧ ∃ v, OwnsB w' w.heap.size v p.1 ∧ w'.heap[E]? = some (.cells #[.int .i64 k, .int .i64 cn, v, .slice none 0 0, .slice none 0 0] 28 (0, 0)) ∧ w'.heap[r]? = some (.cells #[.string (strB (restOf p.2))] TR (0, 0)) := by
  obtain ⟨⟨_, _, p2, _, _⟩, ⟨_, _, f2, _, _⟩⟩ := res_cells he
  cases t with
  | nil =>
    refine (rdig_none r ⟨E, 2, none⟩ _ w hrd rfl).mono ?_
    rintro e w' ⟨h1, h2⟩
    exact ⟨h1, by rw [← h2]; exact ⟨Fr.refl _ _, _, _, _, _, _, he⟩⟩
  | cons x l =>
    have hs : (strB (restOf (x :: l))).size ≤ 16777216 := by rw [strB_size]; exact hlen
    cases hn : hexWord x with
    | none =>
      refine (rdig_bad r ⟨E, 2, none⟩ x l _ w hrd rfl (ht x (by simp)) hs hn).mono ?_
      rintro e w' ⟨h1, h2⟩
      unfold oneHex
      dsimp only
      rw [hn]
      exact ⟨h1, h2.mono (fun _ _ h => .inr h), _, _, _, _, _, h2.at he her⟩
    | some b =>
      by_cases hx : x = [45]
      · subst hx
        have hb : b = [] := by
          have : hexWord [45] = some [] := rfl
          rw [this] at hn; cases hn; rfl
        subst hb
        refine (rdig_dash r ⟨E, 2, none⟩ l _ w hrd rfl).mono ?_
        rintro e w' ⟨h1, h2⟩
        exact ⟨h1, h2.fr.mono (fun _ _ h => .inr h), _, OwnsB.nil _ _, h2.fr.at he her, h2.blk hrd⟩
      · refine (rdig_ok r ⟨E, 2, none⟩ _ x l b _ w hrd rfl (ht x (by simp)) hs hx hn p2 f2 (lt_of_block he) her).mono ?_
        rintro e w' ⟨h1, w1, v, h2, h4, h3⟩
        unfold oneHex
        dsimp only
        rw [hn]
        have he1 := h2.fr.at he her
        refine ⟨h1, ?_, v, ?_, ?_, ?_⟩
        · rw [← h3]
          exact (h2.fr.mono (fun _ _ h => .inr h)).setCell _ _ (fun _ => .inl rfl)
        · rw [← h3]
          exact (Kt.set (p := ⟨E, 2, none⟩) he1 (by decide) v).owns h4
        · rw [← h3]; exact heap_setCell_same w1 E 2 _ _ _ he1
        · rw [← h3]; exact (heap_setCell_other w1 ⟨E, 2, none⟩ r _ (fun e => her e.symm)).trans (h2.blk hrd)
set_option maxRecDepth 100000 in
set_option maxHeartbeats 4000000 in
theorem rline_read {TT BB : Prop} (W0 : World) (hv : Vars TT BB W0) (E r : Nat) (k : Int) (t : List Bytes) (w : World) (hw : Below W0.heap.size W0 w) (hr : W0.heap.size ≤ r) (hE : W0.heap.size ≤ E) (her : E ≠ r)
    (he : w.heap[E]? = some (.cells #[.int .i64 k, .int .i64 0, .slice none 0 0, .slice none 0 0, .slice none 0 0] 28 (0, 0))) (hrd : w.heap[r]? = some (.cells #[.string (strB (restOf t))] TR (0, 0))) (ht : ∀ x ∈ t, Plain x) (hA : ∀ x ∈ t, Asks TT (lread k t = none → BB) x) (hlen : (restOf t).length ≤ 16777216) (h1 : 1 ≤ k) (h5 : k ≤ 5) :
    Calls Tryz.prog 25 #[.iface 68 (.pointer (some ⟨r, 0, none⟩)), .pointer (some ⟨E, 0, none⟩)] w (LPost w E r (lread k t)) := by
  have hmf : ∀ (fn : Fn) (first cap : Array Value) (w : World), (Instr.makeFunc fn first cap).run Tryz.prog w = .ok (.func fn first cap) w := fun _ _ _ _ => rfl
  obtain ⟨⟨p0, p1, p2, p3, p4⟩, ⟨f0, f1, f2, f3, f4⟩⟩ := res_cells he
  have hEl := lt_of_block he
  have hk : k = 1 ∨ k = 2 ∨ k = 3 ∨ k = 4 ∨ k = 5 := by omega
  have HW := Lib.hid (And.intro hv (And.intro hw (And.intro hr (And.intro hE (And.intro her (And.intro he (And.intro hrd (And.intro ht hlen))))))))
  have hwd : Below W0.heap.size W0 w.drew := hw.trans (below_drew w)
  clear hw hr hE h1 h5 hv
  rcases hk with rfl | rfl | rfl | rfl | rfl
  · clear her he hrd ht hlen hwd hA
    go_enter Tryz.func25, Tryz.ntmps25
    go_wp2_with fail
    obtain ⟨hv, hw, hr, hE, her, he, hrd, ht, hlen⟩ := HW.out
    exact ⟨rfl, _, results_none rfl _ _ _, rfl, _, _, _, he, hrd, World.ownsRow_nil _ _ _ _, World.ownsRow_nil _ _ _ _, World.ownsRow_nil _ _ _ _, Fr.refl _ _, her⟩
  · have nn := nil_rnumber ⟨r, 0, none⟩
    have mm := met_rnumber ⟨r, 0, none⟩
    have nd := nil_rdigits ⟨r, 0, none⟩
    have md := met_rdigits ⟨r, 0, none⟩
    have HL : Hid (lread 2 t = (match oneNum t with | none => none | some p => (oneHex p.2).map fun q => (⟨2, p.1, q.1, [], []⟩, q.2))) := Lib.hid (by
      match t with
      | [] => rfl
      | [x] =>
        show none = _
        unfold oneNum
        dsimp only
        cases numWord x <;> rfl
      | x :: y :: l =>
        show (match numWord x with | none => none | some n => (hexWord y).map fun b => ((⟨2, n, b, [], []⟩ : Ev), l)) = _
        unfold oneNum
        dsimp only
        cases numWord x with
        | none => rfl
        | some n => show _ = (oneHex (y :: l)).map _; unfold oneHex; dsimp only; cases hexWord y <;> rfl)
    have hC := rnum_conn W0 HW.out.1 E r 2 t w.drew hwd HW.out.2.2.1 her he hrd ht (fun x hx => ⟨(hA x hx).big, fun h h0 => (hA x hx).bad h (by rw [HL.out, h0])⟩) hlen
    cases hs : oneNum t with
    | none =>
      rw [hs] at hC HL
      have HC := Lib.hid hC
      clear her he hrd ht hlen hwd hA hC
      go_enter Tryz.func25, Tryz.ntmps25
      go_upto_region 2 with fail
      go_still_tail 7, (by kernel_rfl)
      change wpList _ _ _ _ _ w.drew
      go_wp2_with (go_at_call 71; refine HC.out.mono ?_; rintro e w' ⟨rfl, hf⟩)
      exact ⟨rfl, by rw [HL.out]; exact ⟨rfl, hf.1.ofDrew, hf.2⟩⟩
    | some p =>
      obtain ⟨n, l⟩ := p
      rw [hs] at hC HL
      dsimp only at hC HL
      have HC := Lib.hid hC
      have HPL : Hid ((∀ x ∈ l, Plain x) ∧ (restOf l).length ≤ 16777216) := Lib.hid (by
        cases t with
        | nil => cases hs
        | cons x t =>
          unfold oneNum at hs
          obtain ⟨m, _, hm⟩ := Option.map_eq_some_iff.1 hs
          cases hm
          exact ⟨fun y hy => ht y (by simp [hy]), by rw [rest_len] at hlen; omega⟩)
      have HDG := Lib.hid (fun (wa : World) (h1 : wa.heap[E]? = some (.cells #[.int .i64 2, .int .i64 n, .slice none 0 0, .slice none 0 0, .slice none 0 0] 28 (0, 0))) h2 => rdig_bytes E r 2 n l wa her h1 h2 HPL.out.1 HPL.out.2)
      cases hd : oneHex l with
      | none =>
        rw [hd] at HDG HL
        clear her he hrd ht hlen hwd hA hC hs hd
        go_enter Tryz.func25, Tryz.ntmps25
        go_upto_region 2 with fail
        go_still_tail 7, (by kernel_rfl)
        change wpList _ _ _ _ _ w.drew
        go_upto_region 3 with (go_at_call 71; refine HC.out.mono ?_; rintro e wa ⟨rfl, hf, hb1, hb2⟩; have HA := Lib.hid (And.intro hf (And.intro hb1 hb2)); have hal := lt_of_block hb1; clear hf hb1 hb2)
        go_still_tail 7, (by kernel_rfl)
        change wpList _ _ _ _ _ wa.drew
        go_wp2_with (go_at_call 69; refine (HDG.out wa.drew HA.out.2.1 HA.out.2.2).mono ?_; rintro e w' ⟨rfl, hf⟩)
        exact ⟨rfl, by rw [HL.out]; exact ⟨rfl, HA.out.1.ofDrew.trans_same hf.1.ofDrew, hf.2⟩⟩
      | some q =>
        obtain ⟨b, l2⟩ := q
        rw [hd] at HDG HL
        dsimp only at HDG HL
        clear her he hrd ht hlen hwd hA hC hs hd
        go_enter Tryz.func25, Tryz.ntmps25
        go_upto_region 2 with fail
        go_still_tail 7, (by kernel_rfl)
        change wpList _ _ _ _ _ w.drew
        go_upto_region 3 with (go_at_call 71; refine HC.out.mono ?_; rintro e wa ⟨rfl, hf, hb1, hb2⟩; have HA := Lib.hid (And.intro hf (And.intro hb1 hb2)); have hal := lt_of_block hb1; clear hf hb1 hb2)
        go_still_tail 7, (by kernel_rfl)
        change wpList _ _ _ _ _ wa.drew
        go_wp2_with (go_at_call 69; refine (HDG.out wa.drew HA.out.2.1 HA.out.2.2).mono ?_; rintro e w' ⟨rfl, hf, v, hv, hb1, hb2⟩)
        refine ⟨rfl, _, results_none rfl _ _ _, ?_⟩
        rw [HL.out]
        exact ⟨rfl, v, _, _, hb1, hb2, owns_base hv HA.out.1.size, World.ownsRow_nil _ _ _ _, World.ownsRow_nil _ _ _ _, HA.out.1.ofDrew.trans_same hf.ofDrew, HW.out.2.2.2.2.1⟩
  · have nn := nil_rnumber ⟨r, 0, none⟩
    have mm := met_rnumber ⟨r, 0, none⟩
    have HL : Hid (lread 3 t = (oneNum t).map fun p => (⟨3, p.1, [], [], []⟩, p.2)) := Lib.hid (by
      match t with
      | [] => rfl
      | x :: l =>
        show ((numWord x).map fun n => ((⟨3, n, [], [], []⟩ : Ev), l)) = _
        unfold oneNum
        dsimp only
        cases numWord x <;> rfl)
    have hC := rnum_conn W0 HW.out.1 E r 3 t w.drew hwd HW.out.2.2.1 her he hrd ht (fun x hx => ⟨(hA x hx).big, fun h h0 => (hA x hx).bad h (by rw [HL.out, h0]; rfl)⟩) hlen
    clear her he hrd ht hlen hwd hA
    cases hs : oneNum t with
    | none =>
      rw [hs] at hC HL
      have HC := Lib.hid hC
      clear hC
      go_enter Tryz.func25, Tryz.ntmps25
      go_upto_region 5 with fail
      go_still_tail 7, (by kernel_rfl)
      change wpList _ _ _ _ _ w.drew
      go_wp2_with (go_at_call 71; refine HC.out.mono ?_; rintro e w' ⟨rfl, hf⟩)
      exact ⟨rfl, by rw [HL.out]; exact ⟨rfl, hf.1.ofDrew, hf.2⟩⟩
    | some p =>
      obtain ⟨n, l⟩ := p
      rw [hs] at hC HL
      dsimp only at hC HL
      have HC := Lib.hid hC
      clear hC
      go_enter Tryz.func25, Tryz.ntmps25
      go_upto_region 5 with fail
      go_still_tail 7, (by kernel_rfl)
      change wpList _ _ _ _ _ w.drew
      go_wp2_with (go_at_call 71; refine HC.out.mono ?_; rintro e w' ⟨rfl, hf, hb1, hb2⟩)
      refine ⟨rfl, _, results_none rfl _ _ _, ?_⟩
      rw [HL.out]
      exact ⟨rfl, _, _, _, hb1, hb2, OwnsB.nil _ _, World.ownsRow_nil _ _ _ _, World.ownsRow_nil _ _ _ _, hf.ofDrew, HW.out.2.2.2.2.1⟩
  · have nn := nil_rfates ⟨r, 0, none⟩
    have mm := met_rfates ⟨r, 0, none⟩
    have hC := rfates_any W0 HW.out.1 (.int .i64 4) (.int .i64 0) (.slice none 0 0) (.slice none 0 0) E r t w.drew hwd HW.out.2.2.1 HW.out.2.2.2.1 ⟨he, hrd, World.ownsRow_nil _ _ _ _, Fr.refl _ _, her⟩ ht (fun x hx => ⟨(hA x hx).big, fun h h0 => (hA x hx).bad h (by show (sfates t).map _ = none; rw [h0]; rfl)⟩) hlen
    clear her he hrd ht hlen hwd hA
    have HL : Hid (lread 4 t = (sfates t).map fun fs => (⟨4, 0, [], fs, []⟩, [])) := Lib.hid rfl
    cases hs : sfates t with
    | none =>
      rw [hs] at hC HL
      have HC := Lib.hid hC
      clear hC
      go_enter Tryz.func25, Tryz.ntmps25
      go_upto_region 7 with fail
      go_still_tail 7, (by kernel_rfl)
      change wpList _ _ _ _ _ w.drew
      go_wp2_with (go_at_call 70; refine HC.out.mono ?_; rintro e w' ⟨rfl, hf⟩)
      exact ⟨rfl, by rw [HL.out]; exact ⟨rfl, hf.1.ofDrew, hf.2⟩⟩
    | some fs =>
      rw [hs] at hC HL
      have HC := Lib.hid hC
      clear hC
      go_enter Tryz.func25, Tryz.ntmps25
      go_upto_region 7 with fail
      go_still_tail 7, (by kernel_rfl)
      change wpList _ _ _ _ _ w.drew
      go_wp2_with (go_at_call 70; refine HC.out.mono ?_; rintro e w' ⟨rfl, v, h⟩)
      refine ⟨rfl, _, results_none rfl _ _ _, ?_⟩
      rw [HL.out]
      exact ⟨rfl, _, v, _, h.ev, h.rd, OwnsB.nil _ _, h.ow, World.ownsRow_nil _ _ _ _, h.fr.ofDrew, h.er⟩
  · have nn := nil_rpicks ⟨r, 0, none⟩
    have mm := met_rpicks ⟨r, 0, none⟩
    have hC := rpicks_any W0 HW.out.1 (.int .i64 5) (.int .i64 0) (.slice none 0 0) (.slice none 0 0) E r t w.drew hwd HW.out.2.2.1 HW.out.2.2.2.1 ⟨he, hrd, World.ownsRow_nil _ _ _ _, Fr.refl _ _, her⟩ ht (fun x hx => ⟨(hA x hx).big, fun h h0 => (hA x hx).bad h (by show (spicks t).map _ = none; rw [h0]; rfl)⟩) hlen
    clear her he hrd ht hlen hwd hA
    have HL : Hid (lread 5 t = (spicks t).map fun fs => (⟨5, 0, [], [], fs⟩, [])) := Lib.hid rfl
    cases hs : spicks t with
    | none =>
      rw [hs] at hC HL
      have HC := Lib.hid hC
      clear hC
      go_enter Tryz.func25, Tryz.ntmps25
      go_upto_region 9 with fail
      go_still_tail 7, (by kernel_rfl)
      change wpList _ _ _ _ _ w.drew
      go_wp2_with (go_at_call 72; refine HC.out.mono ?_; rintro e w' ⟨rfl, hf⟩)
      exact ⟨rfl, by rw [HL.out]; exact ⟨rfl, hf.1.ofDrew, hf.2⟩⟩
    | some fs =>
      rw [hs] at hC HL
      have HC := Lib.hid hC
      clear hC
      go_enter Tryz.func25, Tryz.ntmps25
      go_upto_region 9 with fail
      go_still_tail 7, (by kernel_rfl)
      change wpList _ _ _ _ _ w.drew
      go_wp2_with (go_at_call 72; refine HC.out.mono ?_; rintro e w' ⟨rfl, v, h⟩)
      refine ⟨rfl, _, results_none rfl _ _ _, ?_⟩
      rw [HL.out]
      exact ⟨rfl, _, _, v, h.ev, h.rd, OwnsB.nil _ _, World.ownsRow_nil _ _ _ _, h.ow, h.fr.ofDrew, h.er⟩
end Go.Proofs.YtimglodailhkaaaGreat
