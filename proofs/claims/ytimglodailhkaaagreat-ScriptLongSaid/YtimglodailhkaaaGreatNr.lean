/-
  The reader: a number.
-/
import Derived.Test.YtimglodailhkaaaGreatWr
namespace Go.Proofs.YtimglodailhkaaaGreat
open Go Go.RowKit
/-- What the program's code asks of the library's variables. -/
structure Vars (T B : Prop) (w : World) : Prop where
  tab : T → Tab w
  es : B → ∃ tp p, w.var? Tryz.prog "strconv.ErrSyntax" = some #[.iface tp p]
  er : B → ∃ tp p, w.var? Tryz.prog "strconv.ErrRange" = some #[.iface tp p]
def Bad (x : Bytes) : Prop := ∀ v, Lib.parseIntB 64 x ≠ .ok v
/-- What a word that is read as a number asks of the library's variables. -/
structure Asks (T B : Prop) (x : Bytes) : Prop where
  big : ∀ v, Lib.parseIntB 64 x = .ok v → ¬ smallN v → T
  bad : Bad x → B
theorem var_below {w W : World} {s : String} {v : Array Value} (h : w.var? Tryz.prog s = some v) (hb : Below w.heap.size w W) : W.var? Tryz.prog s = some v := by
  unfold World.var? at *
  cases hg : Tryz.prog.globalNamed s with
  | none => simp [hg] at h
  | some g =>
    simp only [hg, Option.bind_some] at h ⊢
    have hlt : g < w.heap.size := by
      rcases Nat.lt_or_ge g w.heap.size with h' | h'
      · exact h'
      · rw [Array.getElem?_eq_none h'] at h; simp at h
    rw [hb.block g hlt]
    exact h
theorem Vars.below {T B : Prop} {w W : World} (h : Vars T B w) (hb : Below w.heap.size w W) : Vars T B W :=
  ⟨fun t => tabIs_below (h.tab t) hb, fun b => let ⟨tp, p, e⟩ := h.es b; ⟨tp, p, var_below e hb⟩, fun b => let ⟨tp, p, e⟩ := h.er b; ⟨tp, p, var_below e hb⟩⟩
theorem parse_any {T B : Prop} (s : ByteArray) (hs : s.size ≤ 16777216) (w : World) (hv : Vars T B w) (hB : Bad s.data.toList → B) :
    Calls Tryz.prog 76 #[.string s, .int .i64 10, .int .i64 64] w fun e w' => Fr No w w' ∧ ((∃ v, Lib.parseIntB 64 s.data.toList = .ok v ∧ e = .returned (.tuple #[.int .i64 v, .nilIface])) ∨ ((∀ v, Lib.parseIntB 64 s.data.toList ≠ .ok v) ∧ ∃ x N t, e = .returned (.tuple #[.int .i64 x, .iface t (.pointer (some ⟨N, 0, none⟩))]))) := by
  cases hp : Lib.parseIntB 64 s.data.toList with
  | ok v =>
    refine (Tryz.strconv_ParseInt_10_at64_ok s (by omega) v hp w).mono ?_
    rintro e w' ⟨he, hw⟩
    refine ⟨?_, .inl ⟨v, rfl, he⟩⟩
    rcases hw with hw | ⟨t, hw⟩
    · rw [hw]; exact Fr.refl _ _
    · rw [hw]; exact Fr.ofBelow (Lib.bytesWorld_below _ _ _)
  | range =>
    obtain ⟨tp2, p2, h2⟩ := hv.er (hB (fun v h => by rw [hp] at h; cases h))
    refine (Tryz.strconv_ParseInt_10_at64_range_var s (by omega) hp tp2 p2 w h2).mono ?_
    rintro e w' ⟨N, he, _, _, hw⟩
    exact ⟨Fr.ofBelow hw, .inr ⟨(fun v h => by cases h), _, N, _, he⟩⟩
  | _ =>
    obtain ⟨tp1, p1, h1⟩ := hv.es (hB (fun v h => by rw [hp] at h; cases h))
    refine (Any.strconv_ParseInt_10_at64_syntax_var Tryz.laysC174 s (by omega) hp tp1 p1 w h1).mono ?_
    rintro e w' ⟨N, he, _, _, hw⟩
    exact ⟨Fr.ofBelow hw, .inr ⟨(fun v h => by cases h), _, N, _, he⟩⟩
theorem format_any (n : Int) (w : World) (h0 : -9223372036854775808 ≤ n) (h1 : n ≤ 9223372036854775807) (ht : ¬ smallN n → Tab w) :
    Calls Tryz.prog 77 #[.int .i64 n, .int .i64 10] w fun e w' => e = .returned (.string (strB (Lib.itoa n))) ∧ Fr No w w' := by
  by_cases hs : smallN n
  · obtain ⟨i, rfl⟩ := Int.eq_ofNat_of_zero_le hs.1
    refine (Any.strconv_FormatInt_10_small { Tryz.laysM173 with } i (by have := hs.2; omega) w).mono ?_
    rintro e w' ⟨he, hw⟩
    exact ⟨by rw [he, itoa_nat]; rfl, by rw [hw]; exact Fr.refl _ _⟩
  · exact (Tryz.strconv_FormatInt_10 n h0 h1 w (ht hs)).mono fun e w' ⟨he, k, os, hw⟩ => ⟨he, by rw [hw]; exact Fr.ofBelow (Lib.below_grow _ w (Nat.le_refl _) k os)⟩
set_option maxRecDepth 100000 in
set_option maxHeartbeats 2000000 in
theorem rnum_none (r : Nat) (p : Addr) (S : ByteArray) (w : World) (hb : w.heap[r]? = some (.cells #[.string S] TR (0, 0))) (hS : S.data.toList = restOf []) :
    Calls Tryz.prog 71 #[.pointer (some ⟨r, 0, none⟩), .pointer (some p)] w fun e w' => e = .panicked wrongP ∧ w = w' := by
  have HC := Lib.hid (word_none r S w hb hS)
  clear hb hS
  go_enter Tryz.func71, Tryz.ntmps71
  go_wp2_with (go_at_call 73; refine HC.out.mono ?_; rintro e w1 ⟨rfl, rfl⟩)
  exact ⟨rfl, rfl, rfl⟩
theorem str_ne (x y : Bytes) : ((strB x).toList == (strB y).toList) = decide (x = y) := by
  have h := str_eq2 (strB x) (strB y) x rfl
  rw [show (strB y).data.toList = y from rfl] at h
  exact h
/-- What the reader leaves behind a word: its rest is the other words. -/
def Rest (r : Nat) (t : List Bytes) (w w' : World) : Prop := Fr No (w.setCell ⟨r, 0, none⟩ (.string (strB (restOf t)))) w'
theorem Rest.size {r : Nat} {t : List Bytes} {w w' : World} (h : Rest r t w w') : w.heap.size ≤ w'.heap.size := by have := Fr.size h; simpa using this
theorem Rest.fr {r : Nat} {t : List Bytes} {w w' : World} (h : Rest r t w w') : Fr (One r) w w' := ((Fr.refl (One r) w).setCell ⟨r, 0, none⟩ _ (fun _ => rfl)).trans_no h
theorem Rest.blk {r : Nat} {t : List Bytes} {w w' : World} {S : ByteArray} (h : Rest r t w w') (hb : w.heap[r]? = some (.cells #[.string S] TR (0, 0))) : w'.heap[r]? = some (.cells #[.string (strB (restOf t))] TR (0, 0)) := Fr.at h (one_setCell hb) (fun h => h)
theorem Rest.below {r B : Nat} {t : List Bytes} {w w' : World} (h : Rest r t w w') (hr : B ≤ r) (hB : B ≤ w.heap.size) : Below B w w' :=
  ((Below.refl B w).setCell (p := ⟨r, 0, none⟩) hr _).trans (Below.mono (Fr.toBelow h) (by simpa using hB))
theorem Vars.at {T B : Prop} {W0 w : World} (h : Vars T B W0) (hw : Below W0.heap.size W0 w) : Vars T B w := h.below hw
theorem Asks.num {T B B' : Prop} {x : Bytes} {v : Int} (h : Asks T B x) (hn : numWord x = some v) : Asks T B' x :=
  ⟨h.big, fun hb => by
    obtain ⟨hxi, hvr⟩ := numWord_some hn
    exact absurd (by rw [hxi]; exact itoa_parse v hvr) (hb v)⟩
theorem restSize {x : Bytes} {t : List Bytes} {S : ByteArray} (hS : S.data.toList = restOf (x :: t)) (hlen : S.size ≤ 16777216) : (strB x).size ≤ 16777216 := by
  have h : S.size = S.data.toList.length := by rw [Array.length_toList]; rfl
  rw [hS, restOf_cons] at h
  simp at h
  show x.toArray.size ≤ _
  simp
  omega
set_option maxRecDepth 100000 in
set_option maxHeartbeats 4000000 in
theorem rnum_bad {TT BB : Prop} (W0 : World) (hv : Vars TT BB W0) (r : Nat) (p : Addr) (x : Bytes) (t : List Bytes) (S : ByteArray) (w : World) (hw : Below W0.heap.size W0 w) (hr : W0.heap.size ≤ r) (hb : w.heap[r]? = some (.cells #[.string S] TR (0, 0))) (hS : S.data.toList = restOf (x :: t)) (hx : Plain x) (hA : Asks TT BB x) (hlen : S.size ≤ 16777216) (hnum : numWord x = none) :
    Calls Tryz.prog 71 #[.pointer (some ⟨r, 0, none⟩), .pointer (some p)] w fun e w' => e = .panicked wrongP ∧ Fr (One r) w w' := by
  have HC := Lib.hid (word_some r x t S w hb hS hx)
  have hsz := restSize hS hlen
  have HR : Hid (∀ wx, Rest r t w wx → Vars TT BB wx ∧ Fr (One r) w wx) := Lib.hid (fun wx hx => ⟨hv.at (hw.trans (hx.below hr hw.size)), hx.fr⟩)
  obtain ⟨X0, hX0⟩ : ∃ X0, X0 = strB x := ⟨_, rfl⟩
  rw [← hX0] at HC hsz
  have HX := Lib.hid hX0
  have hxd : X0.data.toList = x := by rw [hX0]; rfl
  cases hp : Lib.parseIntB 64 x with
  | ok v =>
    have hne : ¬ Lib.itoa v = x := fun e => by unfold numWord at hnum; rw [hp] at hnum; dsimp only at hnum; rw [if_pos e] at hnum; cases hnum
    have hq : ((strB (Lib.itoa v)).toList == X0.toList) = false := by rw [hX0, str_ne]; exact decide_eq_false hne
    obtain ⟨Q, hQ⟩ : ∃ Q, Q = strB (Lib.itoa v) := ⟨_, rfl⟩
    have hb := Lib.parseIntB_bounds hp
    have e63 : (2 : Nat) ^ (64 - 1) = 9223372036854775808 := by decide
    rw [e63] at hb
    have HP : Hid (∀ wx, Rest r t w wx → Calls Tryz.prog 76 #[.string X0, .int .i64 10, .int .i64 64] wx fun e w' => e = .returned (.tuple #[.int .i64 v, .nilIface]) ∧ Hid (Rest r t w w')) := Lib.hid (fun wx hx => (parse_any X0 hsz wx (HR.out wx hx).1 (by rw [hxd]; exact hA.bad)).mono (fun e w' ⟨hf, h⟩ => by
      rw [hxd] at h
      rcases h with ⟨v', h1, h2⟩ | ⟨h1, _⟩
      · rw [hp] at h1; cases h1; exact ⟨h2, Lib.hid (Fr.trans_no hx hf)⟩
      · exact absurd hp (h1 v)))
    have HF : Hid (∀ wx, Rest r t w wx → Calls Tryz.prog 77 #[.int .i64 v, .int .i64 10] wx fun e w' => e = .returned (.string Q) ∧ Hid (Rest r t w w')) := Lib.hid (fun wx hx => (format_any v wx (by omega) (by omega) (fun h => (HR.out wx hx).1.tab (hA.big v hp h))).mono (fun e w' ⟨he, hf⟩ => ⟨by rw [he, hQ], Lib.hid (Fr.trans_no hx hf)⟩))
    rw [← hQ] at hq
    clear hw hr hb hS hx hlen hnum hX0 hxd hp hne hQ e63
    go_enter Tryz.func71, Tryz.ntmps71
    go_wp2_with (first | (go_at_call 73; refine HC.out.mono ?_; rintro e w1 ⟨rfl, h1⟩; have H1 : Hid (Rest r t w w1) := Lib.hid (by rw [← h1]; exact Fr.refl _ _); clear h1) | (go_at_call 76; refine (HP.out _ (by exact H1.out)).mono ?_; rintro e w2 ⟨rfl, H2⟩) | (go_at_call 77; refine (HF.out _ (by exact H2.out)).mono ?_; rintro e w3 ⟨rfl, H3⟩))
    exact ⟨rfl, rfl, (HR.out _ H3.out).2⟩
  | _ =>
    have HP : Hid (∀ wx, Rest r t w wx → Calls Tryz.prog 76 #[.string X0, .int .i64 10, .int .i64 64] wx fun e w' => ∃ y N ty, e = .returned (.tuple #[.int .i64 y, .iface ty (.pointer (some ⟨N, 0, none⟩))]) ∧ Hid (Rest r t w w')) := Lib.hid (fun wx hx => (parse_any X0 hsz wx (HR.out wx hx).1 (by rw [hxd]; exact hA.bad)).mono (fun e w' ⟨hf, h⟩ => by
      rw [hxd] at h
      rcases h with ⟨v', h1, h2⟩ | ⟨h1, y, N, ty, h2⟩
      · rw [hp] at h1; cases h1
      · exact ⟨y, N, ty, h2, Lib.hid (Fr.trans_no hx hf)⟩))
    clear hw hr hb hS hx hlen hnum hX0 hxd hp
    go_enter Tryz.func71, Tryz.ntmps71
    go_wp2_with (first | (go_at_call 73; refine HC.out.mono ?_; rintro e w1 ⟨rfl, h1⟩; have H1 : Hid (Rest r t w w1) := Lib.hid (by rw [← h1]; exact Fr.refl _ _); clear h1) | (go_at_call 76; refine (HP.out _ (by exact H1.out)).mono ?_; rintro e w2 ⟨y, N, ty, rfl, H2⟩))
    exact ⟨rfl, rfl, (HR.out _ H2.out).2⟩
set_option maxRecDepth 100000 in
set_option maxHeartbeats 4000000 in
theorem rnum_ok {TT BB : Prop} (W0 : World) (hv : Vars TT BB W0) (r : Nat) (p : Addr) (u : Value) (x : Bytes) (t : List Bytes) (v : Int) (S : ByteArray) (w : World) (hw : Below W0.heap.size W0 w) (hr : W0.heap.size ≤ r) (hb : w.heap[r]? = some (.cells #[.string S] TR (0, 0))) (hS : S.data.toList = restOf (x :: t)) (hx : Plain x) (hA : Asks TT BB x) (hlen : S.size ≤ 16777216) (hnum : numWord x = some v) (hp : w.cell? p = some u) (hpf : w.frozen? p = false) (hpb : p.block < w.heap.size) (hpr : p.block ≠ r) :
    Calls Tryz.prog 71 #[.pointer (some ⟨r, 0, none⟩), .pointer (some p)] w fun e w' => e = .returned (.tuple #[]) ∧ ∃ w1, Rest r t w w1 ∧ w1.setCell p (.int .i64 v) = w' := by
  have HC := Lib.hid (word_some r x t S w hb hS hx)
  have hsz := restSize hS hlen
  have HR : Hid (∀ wx, Rest r t w wx → Vars TT BB wx ∧ wx.cell? p = some u ∧ wx.frozen? p = false ∧ p.block < wx.heap.size) := Lib.hid (fun wx hx => ⟨hv.at (hw.trans (hx.below hr hw.size)), (hx.fr.cell hpb hpr).trans hp, (hx.fr.frozen hpb hpr).trans hpf, Nat.lt_of_lt_of_le hpb hx.fr.size⟩)
  obtain ⟨hxi, hvr⟩ := numWord_some hnum
  obtain ⟨X0, hX0⟩ : ∃ X0, X0 = strB x := ⟨_, rfl⟩
  rw [← hX0] at HC hsz
  have hxd : X0.data.toList = x := by rw [hX0]; rfl
  have hp2 : Lib.parseIntB 64 x = .ok v := by rw [hxi]; exact itoa_parse v hvr
  have HP : Hid (∀ wx, Rest r t w wx → Calls Tryz.prog 76 #[.string X0, .int .i64 10, .int .i64 64] wx fun e w' => e = .returned (.tuple #[.int .i64 v, .nilIface]) ∧ Hid (Rest r t w w')) := Lib.hid (fun wx hx => (parse_any X0 hsz wx (HR.out wx hx).1 (by rw [hxd]; exact hA.bad)).mono (fun e w' ⟨hf, h⟩ => by
    rw [hxd] at h
    rcases h with ⟨v', h1, h2⟩ | ⟨h1, _⟩
    · rw [hp2] at h1; cases h1; exact ⟨h2, Lib.hid (Fr.trans_no hx hf)⟩
    · exact absurd hp2 (h1 v)))
  have HF : Hid (∀ wx, Rest r t w wx → Calls Tryz.prog 77 #[.int .i64 v, .int .i64 10] wx fun e w' => e = .returned (.string X0) ∧ Hid (Rest r t w w')) := Lib.hid (fun wx hx => (format_any v wx hvr.1 hvr.2 (fun h => (HR.out wx hx).1.tab (hA.big v hp2 h))).mono (fun e w' ⟨he, hf⟩ => ⟨by rw [he, hX0, hxi], Lib.hid (Fr.trans_no hx hf)⟩))
  have hqq : (X0.toList == X0.toList) = true := by simp
  clear hw hr hb hS hx hlen hnum hX0 hxd hp hpf hpb hxi hvr hp2
  go_enter Tryz.func71, Tryz.ntmps71
  go_wp2_with (first | (go_at_call 73; refine HC.out.mono ?_; rintro e w1 ⟨rfl, h1⟩; have H1 : Hid (Rest r t w w1) := Lib.hid (by rw [← h1]; exact Fr.refl _ _); clear h1) | (go_at_call 76; refine (HP.out _ (by exact H1.out)).mono ?_; rintro e w2 ⟨rfl, H2⟩) | (go_at_call 77; refine (HF.out _ (by exact H2.out)).mono ?_; rintro e w3 ⟨rfl, H3⟩; obtain ⟨_, k1, k2, k3⟩ := HR.out _ H3.out))
  go_end0
  exact ⟨rfl, _, H3.out, rfl⟩
end Go.Proofs.YtimglodailhkaaaGreat
