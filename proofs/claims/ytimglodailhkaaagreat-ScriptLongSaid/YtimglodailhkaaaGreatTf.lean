/-
  The teller: a word, a number.
-/
import Derived.Test.YtimglodailhkaaaGreatVb
import Derived.Test.YtimglodailhkaaaGreatIt
namespace Go.Proofs.YtimglodailhkaaaGreat
open Go Go.RowKit
abbrev TT : TypeId := 83
theorem IsB.no {T : TypeId} {B b : Nat} {l : Bytes} {w w' : World} (h : IsB T B b l w) (hf : Fr No w w') : IsB T B b l w' := by
  unfold IsB Lib.IsBuilder Lib.BuilderAt at *
  rcases h with ⟨hB, v, hb, ho, hn⟩ | ⟨hB, v, hb, ho, hn⟩
  · exact .inl ⟨hB, v, hf.at hb (fun h => h), hf.owns ho (fun _ _ h => h), hn⟩
  · exact .inr ⟨hB, v, hf.at hb (fun h => h), hf.owns ho (fun _ _ h => h), hn⟩
theorem below_fr {B : Nat} {w w' : World} (h : Fr No w w') (hB : B ≤ w.heap.size) : Below B w w' := h.toBelow.mono hB
set_option maxRecDepth 100000 in
set_option maxHeartbeats 2000000 in
theorem tword_any (B b : Nat) (l : Bytes) (s : ByteArray) (w : World) (h : IsB TT B b l w) (hlen : l.length + s.size + 1 ≤ 140737488355328) (hBw : B ≤ w.heap.size) :
    Calls Tryz.prog 125 #[.pointer (some ⟨b, 0, none⟩), .string s] w fun e w' => e = .returned (.tuple #[]) ∧ IsB TT B b (l ++ 32 :: s.data.toList) w' ∧ Below B w w' := by
  have HW := Lib.hid (writeString_any B b l (⟨#[32]⟩ ++ s) w bu_teller h (by rw [ByteArray.size_append']; have : (⟨#[32]⟩ : ByteArray).size = 1 := rfl; omega) hBw)
  clear h
  go_enter Tryz.func125, Tryz.ntmps125
  go_wp2_with (go_at_call 14; refine HW.out.mono ?_; rintro e w1 ⟨rfl, h1, hb1, _⟩)
  go_end0
  refine ⟨rfl, ?_, hb1⟩
  have e : (⟨#[32]⟩ ++ s : ByteArray).data.toList = 32 :: s.data.toList := by simp
  rw [e] at h1
  exact h1
set_option maxRecDepth 100000 in
set_option maxHeartbeats 2000000 in
theorem tnumber_any (B b : Nat) (l : Bytes) (p : Addr) (n : Int) (w : World) (h : IsB TT B b l w) (hp : w.cell? p = some (.int .i64 n)) (hn : i64 n) (hlen : l.length + 22 ≤ 140737488355328) (hBw : B ≤ w.heap.size) (ht : TabN n w) :
    Calls Tryz.prog 123 #[.pointer (some ⟨b, 0, none⟩), .pointer (some p)] w fun e w' => e = .returned (.tuple #[]) ∧ IsB TT B b (l ++ pick31 n) w' ∧ Below B w w' := by
  have HI := Lib.hid (itoa_any n w hn.1 hn.2 ht)
  have hsz : (⟨(Lib.itoa n).toArray⟩ : ByteArray).size ≤ 21 := by rw [size_mk]; exact itoa_small n hn
  obtain ⟨S, hS⟩ : ∃ S : ByteArray, S = ⟨(Lib.itoa n).toArray⟩ := ⟨_, rfl⟩
  rw [← hS] at HI hsz
  have HW := Lib.hid (fun (w1 : World) (hf : Fr No w w1) => tword_any B b l S w1 (h.no hf) (by omega) (Nat.le_trans hBw hf.size))
  have HS := Lib.hid hS
  clear hS h ht
  go_enter Tryz.func123, Tryz.ntmps123
  go_wp2_with (first | (go_at_call 111; refine HI.out.mono ?_; rintro e w1 ⟨rfl, hf⟩; have HF := Lib.hid hf; clear hf) | (go_at_call 125; refine (HW.out _ (by exact HF.out)).mono ?_; rintro e w2 ⟨rfl, h1, hb1⟩))
  go_end0
  refine ⟨rfl, ?_, (below_fr HF.out hBw).trans hb1⟩
  rw [HS.out] at h1
  exact h1
end Go.Proofs.YtimglodailhkaaaGreat
namespace Go.Proofs.YtimglodailhkaaaGreat
open Go Go.RowKit
theorem and_15 : ∀ x : UInt8, bits BinOp.and IntKind.u8 (x.toNat : Int) 15 = ((x.toNat % 16 : Nat) : Int) := by
  intro x
  have h : ∀ k : Fin 256, bits BinOp.and IntKind.u8 (k.val : Int) 15 = ((k.val % 16 : Nat) : Int) := by decide +kernel
  exact h ⟨x.toNat, x.toNat_lt⟩
theorem IsB.drew {T : TypeId} {B b : Nat} {l : Bytes} {w : World} (h : IsB T B b l w) : IsB T B b l w.drew := h.no ((Fr.refl _ _).drew)
theorem below_drew {B : Nat} (w : World) : Below B w w.drew := (Below.refl B w).drew
set_option maxRecDepth 100000 in
set_option maxHeartbeats 4000000 in
theorem tdigits_any (W0 : World) (b : Nat) (l : Bytes) (p : Addr) (a : Option Addr) (c n : Nat) (bs : Bytes) (w : World) (h : IsB TT W0.heap.size b l w) (hw : Below W0.heap.size W0 w) (hp : p.block < W0.heap.size) (hpc : W0.cell? p = some (.slice a n c)) (hn : bs.length = n) (hl : CellsAt W0 a (byteCs bs)) (hlen : l.length + 2 * n + 2 ≤ 140737488355328) :
    Calls Tryz.prog 121 #[.pointer (some ⟨b, 0, none⟩), .pointer (some p)] w fun e w' => e = .returned (.tuple #[]) ∧ IsB TT W0.heap.size b (l ++ 32 :: hex31 bs) w' ∧ Below W0.heap.size w w' := by
  have hpw : w.cell? p = some (.slice a n c) := (hw.cell hp).trans hpc
  cases hz : (n : Int) == 0
  · have HWB := Lib.hid (writeByte_any W0.heap.size b l 32 w bu_teller h (by omega) hw.size)
    obtain ⟨P, hP⟩ : ∃ P, P = sixteenB := ⟨_, rfl⟩
    have hPs : P.size = 16 := by rw [hP]; rfl
    have hP2 : P = ⟨#[48, 49, 50, 51, 52, 53, 54, 55, 56, 57, 97, 98, 99, 100, 101, 102]⟩ := hP
    have HX := Lib.hid (And.intro hl hn)
    have HP := Lib.hid (And.intro hP hP2)
    have HW := Lib.hid (And.intro hw (And.intro hp hpc))
    have HR : Hid (hex31 bs = bs.flatMap hexPair) := Lib.hid (by
      unfold hex31
      rw [if_neg]
      intro e
      rw [e] at hn
      simp at hn hz
      omega)
    clear hl hn hP hP2 h hw hpc
    go_enter Tryz.func121, Tryz.ntmps121
    go_wp2_with (go_at_call 126; refine (by exact HWB.out : Calls Tryz.prog 126 #[.pointer (some ⟨b, 0, none⟩), .int .u8 32] w _).mono ?_; rintro e w1 ⟨rfl, h1, hb1, _⟩; have hpw1 : w1.cell? p = some (.slice a n c) := (hb1.cell HW.out.2.1).trans hpw)
    rw [← HP.out.2]
    go_loopg [21] n (fun gk vi wr => ∃ (i : Nat), vi = .int .i64 i ∧ i ≤ n ∧ Hid (IsB TT W0.heap.size b (l ++ 32 :: (bs.take i).flatMap hexPair) wr ∧ Below W0.heap.size w wr) ∧ gk + i = n)
    case atStart => exact ⟨0, rfl, by omega, Lib.hid ⟨h1, hb1⟩, by omega⟩
    case round =>
      obtain ⟨i, rfl, hi, HR2, hg⟩ := hrel
      have HG := Lib.hid hg
      clear hg hz h1 hb1 hpw hpw1 HWB
      by_cases hlt : i < n
      · have hlti : (i : Int) < (n : Int) := by omega
        obtain ⟨b1, o1, rfl, hb1, s0⟩ := HX.out.1.byte i (by rw [HX.out.2]; exact hlt)
        obtain ⟨x, hx⟩ : ∃ x, bs[i]'(by rw [HX.out.2]; exact hlt) = x := ⟨_, rfl⟩
        rw [hx] at s0
        have s1 : wr.cell? ⟨b1, o1 + i, none⟩ = some (.int .u8 x.toNat) := ((HW.out.1.trans HR2.out.2).cell hb1).trans s0
        have HXX := Lib.hid hx
        clear hx s0
        have hx256 := x.toNat_lt
        obtain ⟨y, hy⟩ : ∃ y, y = x.toNat / 16 := ⟨_, rfl⟩
        obtain ⟨z, hzz⟩ : ∃ z, z = x.toNat % 16 := ⟨_, rfl⟩
        have y1 : (x.toNat : Int) / 16 = (y : Int) := by omega
        have y2 : y < 16 := by omega
        have y4 : (y : Int) < 16 := by omega
        have y3 : IntKind.u8.wrap (y : Int) = (y : Int) := by rw [IntKind.wrap_u8]; omega
        have z2 : z < 16 := by omega
        have z1 : (x.toNat : Int) % 16 = (z : Int) := by omega
        have z4 : (z : Int) < 16 := by omega
        have z5 : bits BinOp.and IntKind.u8 (x.toNat : Int) 15 = (z : Int) := by rw [and_15 x, hzz]
        have z3 : IntKind.u8.wrap (z : Int) = (z : Int) := by rw [IntKind.wrap_u8]; omega
        have HY := Lib.hid (And.intro hy hzz)
        clear hy hzz
        obtain ⟨p1, hp1⟩ : ∃ p1, P[y]'(by omega) = p1 := ⟨_, rfl⟩
        obtain ⟨q1, hq1⟩ : ∃ q1, P[z]'(by omega) = q1 := ⟨_, rfl⟩
        obtain ⟨LL, hLL⟩ : ∃ LL, LL = l ++ 32 :: (bs.take i).flatMap hexPair := ⟨_, rfl⟩
        have hLN : LL.length + 3 ≤ 140737488355328 := by
          rw [hLL, List.length_append, List.length_cons, hex_len, List.length_take, HX.out.2]; omega
        have hsz : W0.heap.size ≤ wr.heap.size := Nat.le_trans HW.out.1.size HR2.out.2.size
        have HW1 : Hid (Calls Tryz.prog 126 #[.pointer (some ⟨b, 0, none⟩), .int .u8 p1.toNat] wr.drew fun e w' => e = .returned .nilIface ∧ Hid (IsB TT W0.heap.size b (LL ++ [p1]) w' ∧ Below W0.heap.size wr w')) := Lib.hid ((writeByte_any W0.heap.size b LL p1 wr.drew bu_teller (by rw [hLL]; exact HR2.out.1.drew) (by omega) hsz).mono (fun e w' ⟨h1, h2, h3, _⟩ => ⟨h1, Lib.hid ⟨h2, (below_drew wr).trans h3⟩⟩))
        have HLL := Lib.hid hLL
        clear hLL
        go_upto_region 6 with fail
        go_still_tail 6, (by kernel_rfl)
        change wpList _ _ _ _ _ wr.drew
        go_wp2_with (go_at_call 126; refine HW1.out.mono ?_; rintro e wa ⟨rfl, HA⟩)
        have HW2 : Hid (Calls Tryz.prog 126 #[.pointer (some ⟨b, 0, none⟩), .int .u8 q1.toNat] wa.drew fun e w' => e = .returned .nilIface ∧ Hid (IsB TT W0.heap.size b (LL ++ [p1] ++ [q1]) w' ∧ Below W0.heap.size wr w')) := Lib.hid ((writeByte_any W0.heap.size b (LL ++ [p1]) q1 wa.drew bu_teller HA.out.1.drew (by simp; omega) (Nat.le_trans hsz HA.out.2.size)).mono (fun e w' ⟨h1, h2, h3, _⟩ => ⟨h1, Lib.hid ⟨h2, HA.out.2.trans ((below_drew wa).trans h3)⟩⟩))
        go_upto_region 7 with fail
        go_still_tail 6, (by kernel_rfl)
        change wpList _ _ _ _ _ wa.drew
        go_wp2_with (go_at_call 126; refine HW2.out.mono ?_; rintro e wb ⟨rfl, HB⟩)
        go_roundg (gk - 1)
        case measure => have := HG.out; omega
        case rel =>
          refine ⟨i + 1, by go_num, by omega, Lib.hid ⟨?_, HR2.out.2.trans HB.out.2⟩, by have := HG.out; omega⟩
          have e : LL ++ [p1] ++ [q1] = l ++ 32 :: (bs.take (i + 1)).flatMap hexPair := by
            rw [HLL.out, ← hex_step bs i (by rw [HX.out.2]; exact hlt), HXX.out]
            have hp2 : p1 = hexD (x.toNat / 16) := by
              rw [← HY.out.1, ← sixteen_at y y2, ← hp1]
              have := HP.out.1
              subst this
              rfl
            have hq2 : q1 = hexD (x.toNat % 16) := by
              rw [← HY.out.2, ← sixteen_at z z2, ← hq1]
              have := HP.out.1
              subst this
              rfl
            rw [hp2, hq2]
            simp [hexPair]
          rw [← e]
          exact HB.out.1
      · have hlti : ¬ (i : Int) < (n : Int) := by omega
        have HE : Hid ((bs.take i).flatMap hexPair = hex31 bs) := Lib.hid (by rw [HR.out, List.take_of_length_le (by rw [HX.out.2]; omega)])
        go_wp2_with fail
        go_end0
        have h := HR2.out
        rw [HE.out] at h
        exact ⟨rfl, h.1, h.2⟩
  · have HR : Hid (hex31 bs = [45]) := Lib.hid (by
      have : bs = [] := List.length_eq_zero_iff.1 (by rw [hn]; simp at hz; omega)
      rw [this]; rfl)
    have HWB := Lib.hid (tword_any W0.heap.size b l ⟨#[45]⟩ w h (by show l.length + 1 + 1 ≤ _; omega) hw.size)
    clear hl hn h
    go_enter Tryz.func121, Tryz.ntmps121
    go_wp2_with (go_at_call 125; refine HWB.out.mono ?_; rintro e w1 ⟨rfl, h1, hb1⟩)
    exact ⟨rfl, _, results_none rfl _ _ _, rfl, by rw [HR.out]; exact h1, hb1⟩
end Go.Proofs.YtimglodailhkaaaGreat
namespace Go.Proofs.YtimglodailhkaaaGreat
open Go Go.RowKit
theorem picks_len : ∀ (l : List Int), (∀ n ∈ l, i64 n) → (l.flatMap pick31).length ≤ 22 * l.length := by
  intro l
  induction l with
  | nil => intro _; simp
  | cons n l ih =>
    intro h
    have h1 := itoa_small n (h n (by simp))
    have h2 := ih (fun m hm => h m (by simp [hm]))
    rw [List.flatMap_cons, List.length_append, List.length_cons]
    have e : (pick31 n).length = (Lib.itoa n).length + 1 := by simp [pick31]
    omega
theorem picks_step (l : List Int) (i : Nat) (h : i < l.length) : (l.take i).flatMap pick31 ++ pick31 l[i] = (l.take (i + 1)).flatMap pick31 := by
  rw [List.take_succ_eq_append_getElem h, List.flatMap_append]; simp
set_option maxRecDepth 100000 in
set_option maxHeartbeats 4000000 in
theorem tpicks_any (W0 : World) (b : Nat) (l : Bytes) (p : Addr) (a : Option Addr) (c m : Nat) (ps : List Int) (w : World) (h : IsB TT W0.heap.size b l w) (hw : Below W0.heap.size W0 w) (hp : p.block < W0.heap.size) (hpc : W0.cell? p = some (.slice a m c)) (hm : ps.length = m) (hc : CellsAt W0 a (intCs ps)) (hn : ∀ n ∈ ps, i64 n) (hlen : l.length + 22 * m + 22 ≤ 140737488355328) (ht : ∀ n ∈ ps, TabN n W0) :
    Calls Tryz.prog 124 #[.pointer (some ⟨b, 0, none⟩), .pointer (some p)] w fun e w' => e = .returned (.tuple #[]) ∧ IsB TT W0.heap.size b (l ++ ps.flatMap pick31) w' ∧ Below W0.heap.size w w' := by
  have hpw : w.cell? p = some (.slice a m c) := (hw.cell hp).trans hpc
  have HW := Lib.hid (And.intro hw (And.intro hp hpc))
  have HI := Lib.hid h
  have HX := Lib.hid (And.intro hm (And.intro hc (And.intro hn ht)))
  clear h hw hpc hm hc hn ht
  go_enter Tryz.func124, Tryz.ntmps124
  go_wp2_with fail
  go_loopg [9] m (fun gk vi wr => ∃ (i : Nat), vi = .int .i64 i ∧ i ≤ m ∧ Hid (IsB TT W0.heap.size b (l ++ (ps.take i).flatMap pick31) wr ∧ Below W0.heap.size w wr) ∧ gk + i = m)
  case atStart => exact ⟨0, rfl, by omega, Lib.hid ⟨by simpa using HI.out, Below.refl _ _⟩, by omega⟩
  case round =>
    obtain ⟨i, rfl, hi, HR, hg⟩ := hrel
    have HG := Lib.hid hg
    clear hg hpw HI
    have hpw : wr.cell? p = some (.slice a m c) := ((HW.out.1.trans HR.out.2).cell HW.out.2.1).trans HW.out.2.2
    by_cases hlt : i < m
    · have hlti : (i : Int) < (m : Int) := by omega
      obtain ⟨b1, o1, rfl, hb1, s0⟩ := HX.out.2.1.int i (by rw [HX.out.1]; exact hlt)
      obtain ⟨x, hx⟩ : ∃ x, ps[i]'(by rw [HX.out.1]; exact hlt) = x := ⟨_, rfl⟩
      rw [hx] at s0
      have s1 : wr.cell? ⟨b1, o1 + i, none⟩ = some (.int .i64 x) := ((HW.out.1.trans HR.out.2).cell hb1).trans s0
      obtain ⟨LL, hLL⟩ : ∃ LL, LL = l ++ (ps.take i).flatMap pick31 := ⟨_, rfl⟩
      have hLN : LL.length + 22 ≤ 140737488355328 := by
        have h1 := picks_len (ps.take i) (fun n hn => HX.out.2.2.1 n (List.mem_of_mem_take hn))
        rw [List.length_take, HX.out.1] at h1
        rw [hLL, List.length_append]
        omega
      have hxr : i64 x := by rw [← hx]; exact HX.out.2.2.1 _ (List.getElem_mem _)
      have hxt : TabN x W0 := by rw [← hx]; exact HX.out.2.2.2 _ (List.getElem_mem _)
      have HN : Hid (Calls Tryz.prog 123 #[.pointer (some ⟨b, 0, none⟩), .pointer (some ⟨b1, o1 + i, none⟩)] wr fun e w' => e = .returned (.tuple #[]) ∧ Hid (IsB TT W0.heap.size b (LL ++ pick31 x) w' ∧ Below W0.heap.size wr w')) := Lib.hid ((tnumber_any W0.heap.size b LL ⟨b1, o1 + i, none⟩ x wr (by rw [hLL]; exact HR.out.1) s1 hxr hLN (Nat.le_trans HW.out.1.size HR.out.2.size) (hxt.below (HW.out.1.trans HR.out.2))).mono (fun e w' ⟨h1, h2, h3⟩ => ⟨h1, Lib.hid ⟨h2, h3⟩⟩))
      have HXX := Lib.hid (And.intro hx hLL)
      clear hx hLL hxr hb1 s0
      go_wp2_with (go_at_call 123; refine HN.out.mono ?_; rintro e wa ⟨rfl, HA⟩)
      go_roundg (gk - 1)
      case measure => have := HG.out; omega
      case rel =>
        refine ⟨i + 1, by go_num, by omega, Lib.hid ⟨?_, HR.out.2.trans HA.out.2⟩, by have := HG.out; omega⟩
        have h := HA.out.1
        rw [HXX.out.2, List.append_assoc, ← HXX.out.1, picks_step ps i (by rw [HX.out.1]; exact hlt)] at h
        exact h
    · have hlti : ¬ (i : Int) < (m : Int) := by omega
      have HE : Hid (ps.take i = ps) := Lib.hid (List.take_of_length_le (by rw [HX.out.1]; omega))
      go_wp2_with fail
      go_end0
      have h := HR.out
      rw [HE.out] at h
      exact ⟨rfl, h.1, h.2⟩
set_option maxRecDepth 100000 in
set_option maxHeartbeats 2000000 in
theorem tword_kp (B b : Nat) (l : Bytes) (s : ByteArray) (w : World) (h : IsB TT B b l w) (hlen : l.length + s.size + 1 ≤ 140737488355328) (hBw : B ≤ w.heap.size) :
    Calls Tryz.prog 125 #[.pointer (some ⟨b, 0, none⟩), .string s] w fun e w' => e = .returned (.tuple #[]) ∧ IsB TT B b (l ++ 32 :: s.data.toList) w' ∧ Below B w w' ∧ Kp b w w' := by
  have HW := Lib.hid (writeString_any B b l (⟨#[32]⟩ ++ s) w bu_teller h (by rw [ByteArray.size_append']; have : (⟨#[32]⟩ : ByteArray).size = 1 := rfl; omega) hBw)
  clear h
  go_enter Tryz.func125, Tryz.ntmps125
  go_wp2_with (go_at_call 14; refine HW.out.mono ?_; rintro e w1 ⟨rfl, h1, hb1, hk1⟩)
  go_end0
  refine ⟨rfl, ?_, hb1, hk1⟩
  have e : (⟨#[32]⟩ ++ s : ByteArray).data.toList = 32 :: s.data.toList := by simp
  rw [e] at h1
  exact h1
theorem fates_len : ∀ (l : List (Int × Int)), (∀ f ∈ l, i64 f.2) → (l.flatMap fate31).length ≤ 30 * l.length := by
  intro l
  induction l with
  | nil => intro _; simp
  | cons f l ih =>
    intro h
    have h1 := itoa_small f.2 (h f (by simp))
    have h2 := ih (fun m hm => h m (by simp [hm]))
    rw [List.flatMap_cons, List.length_append, List.length_cons]
    have e : (fate31 f).length ≤ (Lib.itoa f.2).length + 6 := by
      unfold fate31
      split
      · simp [goodB]
      · simp [failB]
    omega
theorem fates_step (l : List (Int × Int)) (i : Nat) (h : i < l.length) : (l.take i).flatMap fate31 ++ fate31 l[i] = (l.take (i + 1)).flatMap fate31 := by
  rw [List.take_succ_eq_append_getElem h, List.flatMap_append]; simp
set_option maxRecDepth 100000 in
set_option maxHeartbeats 4000000 in
theorem tfates_any (W0 : World) (b : Nat) (l : Bytes) (p : Addr) (a : Option Addr) (c m : Nat) (fs : List (Int × Int)) (w : World) (h : IsB TT W0.heap.size b l w) (hw : Below W0.heap.size W0 w) (hp : p.block < W0.heap.size) (hpc : W0.cell? p = some (.slice a m c)) (hm : fs.length = m) (hc : CellsAt W0 a (fateCs fs)) (hn : ∀ f ∈ fs, i64 f.2) (hlen : l.length + 30 * m + 60 ≤ 140737488355328) (ht : ∀ f ∈ fs, TabN f.2 W0) :
    Calls Tryz.prog 122 #[.pointer (some ⟨b, 0, none⟩), .pointer (some p)] w fun e w' => e = .returned (.tuple #[]) ∧ IsB TT W0.heap.size b (l ++ fs.flatMap fate31) w' ∧ Below W0.heap.size w w' := by
  have hpw : w.cell? p = some (.slice a m c) := (hw.cell hp).trans hpc
  have HW := Lib.hid (And.intro hw (And.intro hp hpc))
  have HI := Lib.hid h
  have HX := Lib.hid (And.intro hm (And.intro hc (And.intro hn ht)))
  clear h hw hpc hm hc hn ht
  go_enter Tryz.func122, Tryz.ntmps122
  go_wp2_with fail
  go_loopg [10] m (fun gk vi wr => ∃ (i : Nat), vi = .int .i64 i ∧ i ≤ m ∧ Hid (IsB TT W0.heap.size b (l ++ (fs.take i).flatMap fate31) wr ∧ Below W0.heap.size w wr) ∧ gk + i = m)
  case atStart => exact ⟨0, rfl, by omega, Lib.hid ⟨by simpa using HI.out, Below.refl _ _⟩, by omega⟩
  case round =>
    obtain ⟨i, rfl, hi, HR, hg⟩ := hrel
    have HG := Lib.hid hg
    clear hg hpw HI
    by_cases hlt : i < m
    · have hlti : (i : Int) < (m : Int) := by omega
      obtain ⟨b1, o1, rfl, hb1, s0, s0'⟩ := HX.out.2.1.fate i (by rw [HX.out.1]; exact hlt)
      obtain ⟨x, hx⟩ : ∃ x, fs[i]'(by rw [HX.out.1]; exact hlt) = x := ⟨_, rfl⟩
      rw [hx] at s0 s0'
      obtain ⟨k, n⟩ := x
      dsimp only at s0 s0'
      have s1 := ((HW.out.1.trans HR.out.2).cell hb1).trans s0
      have s2 := ((HW.out.1.trans HR.out.2).cell hb1).trans s0'
      have hb2 : b1 < wr.heap.size := Nat.lt_of_lt_of_le hb1 (HW.out.1.trans HR.out.2).size
      obtain ⟨LL, hLL⟩ : ∃ LL, LL = l ++ (fs.take i).flatMap fate31 := ⟨_, rfl⟩
      have hLN : LL.length + 60 ≤ 140737488355328 := by
        have h1 := fates_len (fs.take i) (fun n hn => HX.out.2.2.1 n (List.mem_of_mem_take hn))
        rw [List.length_take, HX.out.1] at h1
        rw [hLL, List.length_append]
        omega
      have hxr : i64 n := by
        have h := HX.out.2.2.1 (fs[i]'(by rw [HX.out.1]; exact hlt)) (List.getElem_mem _)
        rw [hx] at h
        exact h
      have hxt : TabN n W0 := by
        have h := HX.out.2.2.2 (fs[i]'(by rw [HX.out.1]; exact hlt)) (List.getElem_mem _)
        rw [hx] at h
        exact h
      have hsz : W0.heap.size ≤ wr.heap.size := (HW.out.1.trans HR.out.2).size
      obtain ⟨W1, hW1⟩ : ∃ W1, W1 = wr.alloc (.cells #[.int .i64 k, .int .i64 n] 78) := ⟨_, rfl⟩
      have hn1 : Fr No wr W1 := by rw [hW1]; exact (Fr.refl _ _).alloc _
      have hb1' : W1.heap[wr.heap.size]? = some (.cells #[.int .i64 k, .int .i64 n] 78 (0, 0)) := by rw [hW1]; exact heap_alloc_new wr _
      have HI1 : Hid (IsB TT W0.heap.size b LL W1 ∧ Below W0.heap.size wr W1 ∧ W0.heap.size ≤ W1.heap.size) := Lib.hid ⟨by rw [hLL]; exact HR.out.1.no hn1, below_fr hn1 hsz, Nat.le_trans hsz hn1.size⟩
      have HXX := Lib.hid (And.intro hx hLL)
      have hbne : wr.heap.size ≠ b := fun e => by
        have h := HR.out.1
        unfold IsB Lib.IsBuilder Lib.BuilderAt at h
        rcases h with ⟨_, v, hb, _⟩ | ⟨_, v, hb, _⟩
        · have := lt_of_block hb; omega
        · have := lt_of_block hb; omega
      cases hk : (k == 0)
      · have HC : Hid (Calls Tryz.prog 125 #[.pointer (some ⟨b, 0, none⟩), .string ⟨#[102, 97, 105, 108]⟩] W1 fun e w' => e = .returned (.tuple #[]) ∧ w'.cell? ⟨wr.heap.size, 1, none⟩ = some (.int .i64 n) ∧ Hid (IsB TT W0.heap.size b (LL ++ 32 :: failW) w' ∧ Below W0.heap.size wr w')) := Lib.hid ((tword_kp W0.heap.size b LL ⟨#[102, 97, 105, 108]⟩ W1 HI1.out.1 (by show LL.length + 4 + 1 ≤ _; omega) HI1.out.2.2).mono (fun e w' ⟨h1, h2, h3, h4⟩ => ⟨h1, (by
          have h5 := h4 _ _ _ _ hb1' hbne (by decide)
          simp [World.cell?, h5]), Lib.hid ⟨h2, HI1.out.2.1.trans h3⟩⟩))
        have HN : Hid (∀ wa, wa.cell? ⟨wr.heap.size, 1, none⟩ = some (.int .i64 n) → IsB TT W0.heap.size b (LL ++ 32 :: failW) wa → Below W0.heap.size wr wa → Calls Tryz.prog 123 #[.pointer (some ⟨b, 0, none⟩), .pointer (some ⟨wr.heap.size, 1, none⟩)] wa fun e w' => e = .returned (.tuple #[]) ∧ Hid (IsB TT W0.heap.size b (LL ++ 32 :: failW ++ pick31 n) w' ∧ Below W0.heap.size wr w')) := Lib.hid (fun wa h1 h2 h3 => (tnumber_any W0.heap.size b (LL ++ 32 :: failW) ⟨wr.heap.size, 1, none⟩ n wa h2 h1 hxr (by rw [List.length_append]; show LL.length + 5 + 22 ≤ _; omega) (Nat.le_trans hsz h3.size) (hxt.below ((HW.out.1.trans HR.out.2).trans h3))).mono (fun e w' ⟨k1, k2, k3⟩ => ⟨k1, Lib.hid ⟨k2, h3.trans k3⟩⟩))
        have HK : Hid (¬ k = 0) := Lib.hid (by simpa using hk)
        go_upto_region 3 with fail
        rw [← hW1]
        have g0 : W1.cell? ⟨wr.heap.size, 0, none⟩ = some (.int .i64 k) := by simp [World.cell?, hb1']
        clear hW1 hLL hx hb1 s0 s0' hxr hn1 hb1' hbne hsz s1 s2
        go_wp2_with (first | (go_at_call 125; refine HC.out.mono ?_; rintro e wa ⟨rfl, g1, HA⟩) | (go_at_call 123; refine (HN.out _ (by exact g1) (by exact HA.out.1) (by exact HA.out.2)).mono ?_; rintro e wb ⟨rfl, HB⟩))
        go_roundg (gk - 1)
        case measure => have := HG.out; omega
        case rel =>
          refine ⟨i + 1, by go_num, by omega, Lib.hid ⟨?_, HR.out.2.trans HB.out.2⟩, by have := HG.out; omega⟩
          have h := HB.out.1
          have e : LL ++ 32 :: failW ++ pick31 n = l ++ (fs.take (i + 1)).flatMap fate31 := by
            rw [← fates_step fs i (by rw [HX.out.1]; exact hlt), HXX.out.1, HXX.out.2]
            have e2 : fate31 (k, n) = 32 :: failW ++ pick31 n := by unfold fate31; rw [if_neg HK.out]; rfl
            rw [e2]; simp
          rw [e] at h
          exact h
      · have HC : Hid (Calls Tryz.prog 125 #[.pointer (some ⟨b, 0, none⟩), .string ⟨#[103, 111, 111, 100]⟩] W1 fun e w' => e = .returned (.tuple #[]) ∧ Hid (IsB TT W0.heap.size b (LL ++ 32 :: goodW) w' ∧ Below W0.heap.size wr w')) := Lib.hid ((tword_kp W0.heap.size b LL ⟨#[103, 111, 111, 100]⟩ W1 HI1.out.1 (by show LL.length + 4 + 1 ≤ _; omega) HI1.out.2.2).mono (fun e w' ⟨h1, h2, h3, h4⟩ => ⟨h1, Lib.hid ⟨h2, HI1.out.2.1.trans h3⟩⟩))
        have HK : Hid (k = 0) := Lib.hid (by simpa using hk)
        go_upto_region 3 with fail
        rw [← hW1]
        have g0 : W1.cell? ⟨wr.heap.size, 0, none⟩ = some (.int .i64 k) := by simp [World.cell?, hb1']
        clear hW1 hLL hx hb1 s0 s0' hxr hn1 hb1' hbne hsz s1 s2
        go_wp2_with (go_at_call 125; refine HC.out.mono ?_; rintro e wa ⟨rfl, HA⟩)
        go_roundg (gk - 1)
        case measure => have := HG.out; omega
        case rel =>
          refine ⟨i + 1, by go_num, by omega, Lib.hid ⟨?_, HR.out.2.trans HA.out.2⟩, by have := HG.out; omega⟩
          have h := HA.out.1
          have e : LL ++ 32 :: goodW = l ++ (fs.take (i + 1)).flatMap fate31 := by
            rw [← fates_step fs i (by rw [HX.out.1]; exact hlt), HXX.out.1, HXX.out.2]
            have e2 : fate31 (k, n) = 32 :: goodW := by unfold fate31; rw [if_pos HK.out]; rfl
            rw [e2]; simp
          rw [e] at h
          exact h
    · have hlti : ¬ (i : Int) < (m : Int) := by omega
      have HE : Hid (fs.take i = fs) := Lib.hid (List.take_of_length_le (by rw [HX.out.1]; omega))
      go_wp2_with fail
      go_end0
      have h := HR.out
      rw [HE.out] at h
      exact ⟨rfl, h.1, h.2⟩
end Go.Proofs.YtimglodailhkaaaGreat
