/-
  The document's Hex walked (append of two bytes in a region that draws: go_region_law with step_append_lies).
-/
import Derived.Test.YtjidpccgjiogbaaGreatDoorOb
import Derived.Test.YtjidpccgjiogbaaGreatDoorLn
import Derived.BigRegion
import Derived.Deep.RegionLaw
import Derived.Deep.AppendLies
namespace Go.Proofs.YtjidpccgjiogbaaGreatDoor
open Go Go.RowKit
theorem heap_drew (w : World) : w.drew.heap = w.heap := rfl
theorem hex_step (l : Bytes) (i : Nat) (h : i < l.length) : (l.take i).flatMap hexPair ++ hexPair l[i] = (l.take (i + 1)).flatMap hexPair := by
  rw [List.take_succ_eq_append_getElem h, List.flatMap_append]; simp
theorem hex_len : ∀ (l : Bytes), (l.flatMap hexPair).length = l.length * 2
  | [] => rfl
  | c :: l => by rw [List.flatMap_cons, List.length_append, hex_len l, List.length_cons]; show 2 + _ = _; omega
theorem CellsAt.byte {w : World} {a : Option Addr} {l : Bytes} (h : CellsAt w a (byteCs l)) (i : Nat) (hi : i < l.length) : ∃ b off, a = some ⟨b, off, none⟩ ∧ b < w.heap.size ∧ w.cell? ⟨b, off + i, none⟩ = some (.int .u8 l[i].toNat) := by
  obtain ⟨b, off, e, hl, hc⟩ := h.one (j := i) (by simpa [byteCs] using hi)
  exact ⟨b, off, e, hl, hc i _ (by simp [byteCs, hi])⟩
def sixteenB : ByteArray := ⟨#[48, 49, 50, 51, 52, 53, 54, 55, 56, 57, 97, 98, 99, 100, 101, 102]⟩
theorem sixteen_at (i : Nat) (h : i < 16) : sixteenB[i]'h = hexD i := by
  have : ∀ j : Fin 16, sixteenB[j.val]'j.isLt = hexD j.val := by decide
  exact this ⟨i, h⟩
set_option maxRecDepth 100000 in
set_option maxHeartbeats 8000000 in
theorem rhex_any (a : Option Addr) (c n : Nat) (bs : Bytes) (w : World) (hn : bs.length = n) (hl : CellsAt w a (byteCs bs)) (hbig : n ≤ 1000000000000) :
    Calls Tryz.prog 46 #[.slice a n c] w fun e w' => e = .returned (.string ⟨(hex31 bs).toArray⟩) ∧ Fr No w w' := by
  cases hz : (n : Int) == 0
  · obtain ⟨Z, hZ, hmk⟩ := make_bytes w (2 * n) (by omega)
    obtain ⟨P, hP⟩ : ∃ P, P = sixteenB := ⟨_, rfl⟩
    have hPs : P.size = 16 := by rw [hP]; rfl
    have hP2 : P = ⟨#[48, 49, 50, 51, 52, 53, 54, 55, 56, 57, 97, 98, 99, 100, 101, 102]⟩ := hP
    obtain ⟨n2, hn2⟩ : ∃ n2, 2 * n = n2 := ⟨_, rfl⟩
    rw [hn2] at hmk hZ
    have hmul : 2 * (n : Int) = (n2 : Int) := by omega
    have HO0 := Lib.hid (owns_made w n2 Z hZ (by omega))
    have HX := Lib.hid (And.intro hl hn)
    have HP := Lib.hid (And.intro hP hP2)
    have HR : Hid (hex31 bs = bs.flatMap hexPair) := Lib.hid (by
      unfold hex31
      rw [if_neg]
      intro e
      rw [e] at hn
      simp at hn hz
      omega)
    clear hl hn hP hP2 hZ hn2
    go_enter Tryz.func46, Tryz.ntmps46
    go_wp2_with fail
    clear hmk
    rw [← HP.out.2]
    go_loopg [4, 5] n (fun g vo vi wr => ∃ (i : Nat) (b : Option Addr) (m d : Nat), vo = .slice b m d ∧ vi = .int .i64 i ∧ i ≤ n ∧ Hid (OwnsB wr w.heap.size (.slice b m d) ((bs.take i).flatMap hexPair)) ∧ Hid (Fr No w wr) ∧ g + i = n)
    case atStart => exact ⟨0, _, _, _, rfl, rfl, by omega, HO0, Lib.hid ((Fr.refl _ _).alloc _), by omega⟩
    case round =>
      obtain ⟨i, b, m, d, rfl, rfl, hi, HO, HF, hg⟩ := hrel
      have HG := Lib.hid hg
      clear hg HO0 hz hmul
      by_cases hlt : i < n
      · have hlti : (i : Int) < (n : Int) := by omega
        obtain ⟨b1, o1, rfl, hb1, s1⟩ := (HX.out.1.no HF.out).byte i (by rw [HX.out.2]; exact hlt)
        obtain ⟨x, hx⟩ : ∃ x, bs[i]'(by rw [HX.out.2]; exact hlt) = x := ⟨_, rfl⟩
        rw [hx] at s1
        have HXX := Lib.hid hx
        clear hx
        have hx256 := x.toNat_lt
        obtain ⟨y, hy⟩ : ∃ y, y = x.toNat / 16 := ⟨_, rfl⟩
        obtain ⟨z, hzz⟩ : ∃ z, z = x.toNat % 16 := ⟨_, rfl⟩
        have y1 : (x.toNat : Int) / 16 = (y : Int) := by omega
        have z1 : (x.toNat : Int) % 16 = (z : Int) := by omega
        have y2 : y < 16 := by omega
        have y4 : (y : Int) < 16 := by omega
        have z5 : Int.tmod (x.toNat : Int) 16 = (z : Int) := by rw [Int.tmod_eq_emod_of_nonneg (by omega)]; exact z1
        have z4 : (z : Int) < 16 := by omega
        have y3 : IntKind.u8.wrap (y : Int) = (y : Int) := by rw [IntKind.wrap_u8]; omega
        have z3 : IntKind.u8.wrap (z : Int) = (z : Int) := by rw [IntKind.wrap_u8]; omega
        have z2 : z < 16 := by omega
        have HY := Lib.hid (And.intro hy hzz)
        clear hy hzz
        obtain ⟨p, hp⟩ : ∃ p, P[y]'(by omega) = p := ⟨_, rfl⟩
        obtain ⟨q, hq⟩ : ∃ q, P[z]'(by omega) = q := ⟨_, rfl⟩
        obtain ⟨i0, hi0, hz0, hz1, hz2⟩ := info_parts infoU8
        have HI0 := Lib.hid (And.intro hi0 (And.intro hz0 (And.intro hz1 hz2)))
        clear hi0 hz0 hz1 hz2
        obtain ⟨L, hL⟩ : ∃ L, L = ((bs.take i).flatMap hexPair).length := ⟨_, rfl⟩
        have hL2 : L ≤ 2000000000000 := by rw [hL, hex_len, List.length_take]; omega
        obtain ⟨XS, hXS⟩ : ∃ XS, XS = ((bs.take i).flatMap hexPair).map byteV := ⟨_, rfl⟩
        have hown : (wr.drew.alloc (.cells #[.int .u8 p.toNat, .int .u8 q.toNat] 5)).ownsRow w.heap.size 5 1 (.slice b m d) L XS := by
          have h := HO.out.no (((Fr.refl _ _).drew).alloc (.cells #[.int .u8 p.toNat, .int .u8 q.toNat] 5))
          unfold OwnsB at h
          rw [← hL, ← hXS] at h
          exact h
        have HOW := Lib.hid hown
        have HNW : Hid (∀ j u, [Value.int .u8 p.toNat, Value.int .u8 q.toNat][j]? = some u → (wr.drew.alloc (.cells #[.int .u8 p.toNat, .int .u8 q.toNat] 5)).cell? ((⟨wr.heap.size, 0, none⟩ : Addr).add j) = some u) := Lib.hid (fun j u hu => by
          have hadd : (⟨wr.heap.size, 0, none⟩ : Addr).add j = ⟨wr.heap.size, j, none⟩ := by unfold Addr.add; split <;> simp_all
          rw [hadd]
          have hb := heap_alloc_new wr.drew (.cells #[.int .u8 p.toNat, .int .u8 q.toNat] 5)
          rw [heap_drew] at hb
          unfold World.cell?
          rw [hb]
          match j, hu with
          | 0, hu => exact hu
          | 1, hu => exact hu
          | j + 2, hu => simp at hu)
        have HLX := Lib.hid (And.intro hL hXS)
        have HSZ := Lib.hid (show w.heap.size ≤ wr.heap.size from HF.out.size)
        clear hL hXS hown
        go_upto_region 8 with fail
        go_region_law (refine step_append_lies (P := Tryz.prog) _ rfl (.tmp 19) (.tmp 34) 23 rfl w.heap.size 5 i0 (.int .u8 0) 1 1 Tryz.underlying23 HI0.out.1 HI0.out.2.1 HI0.out.2.2.1 HI0.out.2.2.2 rfl (by decide) (.slice b m d) L XS rfl HOW.out ⟨wr.heap.size, 0, none⟩ 2 2 [.int .u8 p.toNat, .int .u8 q.toNat] rfl rfl HNW.out (by intro u hu; simp at hu; rcases hu with rfl | rfl <;> rfl) (by decide) (by unfold maxLen; omega) (by omega) (by have := HSZ.out; simp; omega) _ rfl ?_; intro g cap w2 k1 k2 k3 k4)
        all_goals
          have hfr : Fr No w w2 := (((HF.out.drew).alloc _).grown k2 (fun r e hr => by have h := World.ownsRow.lt HOW.out r (by simpa using e); omega))
          have HN2 : Hid (OwnsB w2 w.heap.size (.slice (some ⟨g, 0, none⟩) (L + 2) cap) ((bs.take (i + 1)).flatMap hexPair)) := Lib.hid (by
            have e : XS ++ [Value.int .u8 p.toNat, Value.int .u8 q.toNat] = ((bs.take (i + 1)).flatMap hexPair).map byteV := by
              rw [← hex_step bs i (by rw [HX.out.2]; exact hlt), HXX.out, List.map_append, ← HLX.out.2]
              have hp2 : p = hexD (x.toNat / 16) := by
                rw [← HY.out.1, ← sixteen_at y y2, ← hp]
                have := HP.out.1
                subst this
                rfl
              have hq2 : q = hexD (x.toNat % 16) := by
                rw [← HY.out.2, ← sixteen_at z z2, ← hq]
                have := HP.out.1
                subst this
                rfl
              rw [hp2, hq2]; rfl
            have e2 : ((bs.take (i + 1)).flatMap hexPair).length = L + 2 := by
              rw [← hex_step bs i (by rw [HX.out.2]; exact hlt), List.length_append, ← HLX.out.1]; rfl
            unfold OwnsB
            rw [e2, ← e]
            exact k1)
          have HF2 := Lib.hid hfr
          clear k1 k2 k3 k4 hfr HOW HNW HO
          go_wp2_with fail
          go_roundg (gk - 1)
          case measure => have := HG.out; omega
          case rel => exact ⟨i + 1, _, _, _, rfl, by go_num, by omega, HN2, HF2, by have := HG.out; omega⟩
      · have hlti : ¬ (i : Int) < (n : Int) := by omega
        have hcv := HO.out.conv
        have HE : Hid ((bs.take i).flatMap hexPair = hex31 bs) := Lib.hid (by rw [HR.out, List.take_of_length_le (by rw [HX.out.2]; omega)])
        rw [HE.out] at hcv
        go_wp2_with fail
        go_ret
        exact ⟨rfl, HF.out⟩
  · have HR : Hid (hex31 bs = [45]) := Lib.hid (by
      have : bs = [] := List.length_eq_zero_iff.1 (by rw [hn]; simp at hz; omega)
      rw [this]; rfl)
    clear hl hn
    go_enter Tryz.func46, Tryz.ntmps46
    go_wp2_with fail
    go_ret
    exact ⟨by rw [HR.out]; rfl, Fr.refl _ _⟩
end Go.Proofs.YtjidpccgjiogbaaGreatDoor
