/-
  Plain law: the line that the program reads word by word (sread) is the event that the document reads (read31): sread_read.
-/
import Derived.Test.YtimglodailhkaaaGreatRp
import Derived.Lib.ParseIntBTie
namespace Go.Proofs.YtimglodailhkaaaGreat
open Go Go.RowKit
theorem dec_all : ∀ (u : Nat), ∀ c ∈ Lib.decDigits u, 48 ≤ c.toNat ∧ c.toNat ≤ 57 := by
  intro u
  induction u using Nat.strongRecOn with
  | ind u ih =>
    intro c hc
    rw [Lib.decDigits] at hc
    split at hc
    · rename_i h
      have : c = UInt8.ofNat (48 + u) := by simpa using hc
      subst this
      rw [UInt8.toNat_ofNat']
      omega
    · rename_i h
      rcases List.mem_append.1 hc with hc | hc
      · exact ih (u / 10) (by omega) c hc
      · have : c = UInt8.ofNat (48 + u % 10) := by simpa using hc
        subst this
        rw [UInt8.toNat_ofNat']
        omega
theorem dec_ne (u : Nat) : ∃ c l, Lib.decDigits u = c :: l := by
  cases h : Lib.decDigits u with
  | nil =>
    rw [Lib.decDigits] at h
    split at h
    · cases h
    · exact absurd h (by simp)
  | cons c l => exact ⟨c, l, rfl⟩
theorem dec_uint (M : Nat) (hM : M ≤ 18446744073709551615) : ∀ (u : Nat), u ≤ M → ∀ t, Lib.parseUintM M 0 (Lib.decDigits u ++ t) = Lib.parseUintM M u t := by
  intro u
  induction u using Nat.strongRecOn with
  | ind u ih =>
    intro hu t
    rw [Lib.decDigits]
    split
    · rename_i h
      have e : (UInt8.ofNat (48 + u)).toNat = 48 + u := by rw [UInt8.toNat_ofNat']; omega
      rw [List.singleton_append, Lib.parseUintM, e, if_pos (by omega), if_neg (by omega), if_neg (by omega)]
      congr 1; omega
    · rename_i h
      rw [List.append_assoc, ih (u / 10) (by omega) (by omega)]
      have e : (UInt8.ofNat (48 + u % 10)).toNat = 48 + u % 10 := by rw [UInt8.toNat_ofNat']; omega
      rw [List.singleton_append, Lib.parseUintM, e, if_pos (by omega), if_neg (by omega), if_neg (by omega)]
      congr 1; omega
theorem dec_len : ∀ (k u : Nat), 1 ≤ k → u < 10 ^ k → (Lib.decDigits u).length ≤ k := by
  intro k
  induction k with
  | zero => intro u h; omega
  | succ k ih =>
    intro u _ hu
    rw [Lib.decDigits]
    split
    · simp
    · rename_i h
      rw [List.length_append, List.length_singleton]
      have hk : 1 ≤ k := by
        rcases Nat.eq_zero_or_pos k with h0 | h0
        · subst h0; simp at hu; omega
        · exact h0
      have := ih (u / 10) hk (by rw [Nat.pow_succ] at hu; omega)
      omega
theorem dig_dec (d : Nat) (h : d < 10) : dig31 (UInt8.ofNat (48 + d)) = d := by
  have e : (UInt8.ofNat (48 + d)).toNat = 48 + d := by rw [UInt8.toNat_ofNat']; omega
  unfold dig31
  rw [e, if_neg (by omega), if_pos (by omega)]
  omega
theorem dec_loop : ∀ (u : Nat), u ≤ 9223372036854775808 → ∀ t, numLoop (Lib.decDigits u ++ t) 0 = numLoop t (-(u : Int)) := by
  intro u
  induction u using Nat.strongRecOn with
  | ind u ih =>
    intro hu t
    rw [Lib.decDigits]
    split
    · rename_i h
      rw [List.singleton_append, numLoop, dig_dec u h]
      rw [if_neg (by
        rw [show -9223372036854775808 + (u : Int) = -(9223372036854775808 - (u : Int)) by omega, Int.neg_tdiv, Int.tdiv_eq_ediv_of_nonneg (by omega)]
        omega)]
      congr 1; omega
    · rename_i h
      rw [List.append_assoc, ih (u / 10) (by omega) (by omega)]
      rw [List.singleton_append, numLoop, dig_dec (u % 10) (by omega)]
      obtain ⟨d, hd⟩ : ∃ d, u % 10 = d := ⟨_, rfl⟩
      obtain ⟨q, hq⟩ : ∃ q, u / 10 = q := ⟨_, rfl⟩
      have hu2 : u = 10 * q + d := by omega
      have hd2 : d < 10 := by omega
      rw [hd, hq]
      rw [if_neg (by
        rw [show -9223372036854775808 + (d : Int) = -(9223372036854775808 - (d : Int)) by omega, Int.neg_tdiv, Int.tdiv_eq_ediv_of_nonneg (by omega)]
        omega)]
      congr 1; omega
theorem itoa_parse (n : Int) (h : i64 n) : Lib.parseIntB 64 (Lib.itoa n) = .ok n := by
  have e64 : (2 : Nat) ^ 64 - 1 = 18446744073709551615 := by decide
  have e63 : (2 : Nat) ^ (64 - 1) = 9223372036854775808 := by decide
  obtain ⟨h1, h2⟩ := h
  unfold Lib.itoa
  by_cases hn : n < 0
  · rw [if_pos hn]
    unfold Lib.parseIntB
    dsimp only
    rw [if_pos (.inr (by decide))]
    obtain ⟨c, l, hcl⟩ := dec_ne n.natAbs
    have hp := dec_uint (2 ^ 64 - 1) (by decide) n.natAbs (by omega) []
    rw [List.append_nil] at hp
    unfold Lib.parseUintB
    rw [if_neg (by rw [hcl]; simp), hp]
    rw [Lib.parseUintM]
    dsimp only
    have h45 : (45 : UInt8).toNat = 45 := rfl
    rw [e63, h45, if_neg (fun h => h.1 rfl), if_neg (by omega), if_pos rfl]
    congr 1; omega
  · rw [if_neg hn]
    obtain ⟨c, l, hcl⟩ := dec_ne n.toNat
    have hc := dec_all n.toNat c (by rw [hcl]; simp)
    have hp := dec_uint (2 ^ 64 - 1) (by decide) n.toNat (by omega) []
    rw [List.append_nil] at hp
    rw [hcl] at hp ⊢
    unfold Lib.parseIntB
    dsimp only
    rw [if_neg (by omega)]
    unfold Lib.parseUintB
    rw [if_neg (by simp), hp]
    rw [Lib.parseUintM]
    dsimp only
    rw [e63, if_neg (by omega), if_neg (by omega), if_neg (by omega)]
    congr 1; omega
theorem itoa_number (n : Int) (h : i64 n) : number31 (Lib.itoa n) = n := by
  obtain ⟨h1, h2⟩ := h
  unfold Lib.itoa
  by_cases hn : n < 0
  · rw [if_pos hn]
    unfold number31
    rw [if_pos (by rfl)]
    unfold numTail
    have hl := dec_len 19 n.natAbs (by omega) (by omega)
    have hp := dec_loop n.natAbs (by omega) []
    rw [List.append_nil] at hp
    rw [List.tail_cons, if_neg (by omega), hp]
    rw [numLoop]
    dsimp only
    rw [if_pos rfl]; omega
  · rw [if_neg hn]
    obtain ⟨c, l, hcl⟩ := dec_ne n.toNat
    have hc := dec_all n.toNat c (by rw [hcl]; simp)
    have hl := dec_len 19 n.toNat (by omega) (by omega)
    have hp := dec_loop n.toNat (by omega) []
    rw [List.append_nil] at hp
    unfold number31
    rw [if_neg (by rw [hcl]; simp; intro e; subst e; simp at hc)]
    unfold numTail
    rw [if_neg (by omega), hp]
    rw [numLoop]
    dsimp only
    rw [if_neg (by decide), if_neg (by omega)]; omega
/-- A word that is a number's. -/
def numWord (s : Bytes) : Option Int := match Lib.parseIntB 64 s with | .ok x => if Lib.itoa x = s then some x else none | _ => none
theorem numWord_itoa (n : Int) (h : i64 n) : numWord (Lib.itoa n) = some n := by unfold numWord; rw [itoa_parse n h]; dsimp only; rw [if_pos rfl]
theorem numWord_some {s : Bytes} {n : Int} (h : numWord s = some n) : s = Lib.itoa n ∧ i64 n := by
  unfold numWord at h
  split at h
  · rename_i x hx
    split at h
    · rename_i he
      cases h
      have hb := Lib.parseIntB_bounds hx
      have e63 : (2 : Nat) ^ (64 - 1) = 9223372036854775808 := by decide
      rw [e63] at hb
      exact ⟨he.symm, ⟨by omega, by omega⟩⟩
    · cases h
  · cases h
theorem itoa_blank (n : Int) : (32 : UInt8) ∉ Lib.itoa n := by
  have hd : ∀ u, (32 : UInt8) ∉ Lib.decDigits u := fun u h => by have := dec_all u 32 h; simp at this
  unfold Lib.itoa
  split
  · intro h
    rcases List.mem_cons.1 h with h | h
    · cases h
    · exact hd _ h
  · exact hd _
theorem itoa_first (n : Int) : ∃ c l, Lib.itoa n = c :: l ∧ (c = 45 ∨ (48 ≤ c.toNat ∧ c.toNat ≤ 57)) := by
  unfold Lib.itoa
  split
  · exact ⟨_, _, rfl, .inl rfl⟩
  · obtain ⟨c, l, h⟩ := dec_ne n.toNat
    exact ⟨c, l, h, .inr (dec_all n.toNat c (by rw [h]; simp))⟩
theorem itoa_not (n : Int) : ¬ Lib.itoa n = goodW ∧ ¬ Lib.itoa n = failW := by
  obtain ⟨c, l, h, hc⟩ := itoa_first n
  rw [h]
  constructor
  · intro e
    have e1 : c = 103 := (List.cons.inj e).1
    subst e1
    rcases hc with hc | hc
    · cases hc
    · simp at hc
  · intro e
    have e1 : c = 102 := (List.cons.inj e).1
    subst e1
    rcases hc with hc | hc
    · cases hc
    · simp at hc
/-- Words joined. -/
def restOf (t : List Bytes) : Bytes := t.flatMap fun x => 32 :: x
theorem restOf_cons (x : Bytes) (t : List Bytes) : restOf (x :: t) = 32 :: x ++ restOf t := by unfold restOf; rw [List.flatMap_cons]
theorem restOf_nil : restOf [] = [] := rfl
theorem restOf_app (a b : List Bytes) : restOf (a ++ b) = restOf a ++ restOf b := by unfold restOf; rw [List.flatMap_append]
def Plain (x : Bytes) : Prop := (32 : UInt8) ∉ x
theorem wordsFrom_app : ∀ (x : Bytes) (d : List Bytes) (c l : Bytes), Plain x → wordsFrom d c (x ++ l) = wordsFrom d (c ++ x) l := by
  intro x
  induction x with
  | nil => intro d c l _; simp
  | cons b x ih =>
    intro d c l h
    have hb : ¬ b = 32 := fun e => h (by subst e; simp)
    rw [List.cons_append, wordsFrom, if_neg hb, ih _ _ _ (fun hx => h (by simp [hx])), List.append_assoc]
    rfl
theorem wordsFrom_rest : ∀ (t : List Bytes) (d : List Bytes) (c : Bytes), (∀ x ∈ t, Plain x) → wordsFrom d c (restOf t) = d ++ c :: t := by
  intro t
  induction t with
  | nil => intro d c _; rfl
  | cons x t ih =>
    intro d c h
    rw [restOf_cons, List.cons_append, wordsFrom, if_pos rfl, wordsFrom_app _ _ _ _ (h x (by simp)), ih _ _ (fun y hy => h y (by simp [hy]))]
    simp
theorem words_join (h : Bytes) (t : List Bytes) (h1 : Plain h) (h2 : ∀ x ∈ t, Plain x) : words31 (h ++ restOf t) = h :: t := by
  unfold words31
  rw [wordsFrom_app _ _ _ _ h1, wordsFrom_rest _ _ _ h2]
  simp
def joinW (ws : List Bytes) : Bytes := ws.headD [] ++ restOf ws.tail
theorem joinW_snoc (d : List Bytes) (c x : Bytes) : joinW (d ++ [c] ++ [x]) = joinW (d ++ [c]) ++ 32 :: x := by
  cases d with
  | nil => simp [joinW, restOf]
  | cons y d => simp [joinW, restOf]
theorem joinW_grow (d : List Bytes) (c : Bytes) (b : UInt8) : joinW (d ++ [c ++ [b]]) = joinW (d ++ [c]) ++ [b] := by
  cases d with
  | nil => simp [joinW, restOf]
  | cons y d => simp [joinW, restOf]
theorem wordsFrom_joined : ∀ (l : Bytes) (d : List Bytes) (c : Bytes), (∀ x ∈ d, Plain x) → Plain c → (∀ x ∈ wordsFrom d c l, Plain x) ∧ joinW (wordsFrom d c l) = joinW (d ++ [c]) ++ l ∧ wordsFrom d c l ≠ [] := by
  intro l
  induction l with
  | nil =>
    intro d c hd hc
    refine ⟨fun x hx => ?_, by simp [wordsFrom], by simp [wordsFrom]⟩
    rcases List.mem_append.1 hx with hx | hx
    · exact hd x hx
    · have : x = c := by simpa using hx
      subst this; exact hc
  | cons b l ih =>
    intro d c hd hc
    rw [wordsFrom]
    split
    · rename_i hb
      subst hb
      obtain ⟨h1, h2, h3⟩ := ih (d ++ [c]) [] (fun x hx => by
        rcases List.mem_append.1 hx with hx | hx
        · exact hd x hx
        · have : x = c := by simpa using hx
          subst this; exact hc) (by simp [Plain])
      refine ⟨h1, ?_, h3⟩
      rw [h2, joinW_snoc]; simp
    · rename_i hb
      obtain ⟨h1, h2, h3⟩ := ih d (c ++ [b]) hd (fun hx => by
        rcases List.mem_append.1 hx with hx | hx
        · exact hc hx
        · have : 32 = b := by simpa using hx
          exact hb this.symm)
      refine ⟨h1, ?_, h3⟩
      rw [h2, joinW_grow]; simp
theorem words_split (s : Bytes) : ∃ h t, words31 s = h :: t ∧ s = h ++ restOf t ∧ Plain h ∧ ∀ x ∈ t, Plain x := by
  obtain ⟨h1, h2, h3⟩ := wordsFrom_joined s [] [] (fun _ h => by cases h) (by simp [Plain])
  cases hw : words31 s with
  | nil => exact absurd hw h3
  | cons h t =>
    have e : words31 s = wordsFrom [] [] s := rfl
    rw [← e, hw] at h1 h2
    refine ⟨h, t, rfl, ?_, h1 h (by simp), fun x hx => h1 x (by simp [hx])⟩
    simpa [joinW, restOf] using h2.symm
/-- Digits to the base sixteen. -/
def isHexD (c : UInt8) : Bool := (decide (48 ≤ c.toNat) && decide (c.toNat ≤ 57)) || (decide (97 ≤ c.toNat) && decide (c.toNat ≤ 102))
theorem dig_hexD : ∀ d : Fin 16, dig31 (hexD d) = d ∧ isHexD (hexD d) = true ∧ hexD d ≠ 32 := by decide
theorem hexD_dig (c : UInt8) (h : isHexD c = true) : hexD (dig31 c).toNat = c := by
  unfold isHexD at h
  simp only [Bool.or_eq_true, Bool.and_eq_true, decide_eq_true_eq] at h
  have hc := c.toNat_lt
  apply UInt8.toNat_inj.1
  unfold hexD
  rcases h with h | h
  · have e : dig31 c = (c.toNat : Int) - 48 := by unfold dig31; rw [if_neg (by omega), if_pos h]
    rw [e, if_pos (by omega), UInt8.toNat_ofNat']
    omega
  · have e : dig31 c = (c.toNat : Int) - 87 := by unfold dig31; rw [if_pos h]
    rw [e, if_neg (by omega), UInt8.toNat_ofNat']
    omega
theorem dig_lt (c : UInt8) : (dig31 c).toNat < 16 := by unfold dig31; split; omega; split <;> omega
theorem bytes_hex : ∀ (b : Bytes), bytesOf (b.flatMap hexPair) = b ∧ (b.flatMap hexPair).all isHexD = true ∧ (b.flatMap hexPair).length = 2 * b.length ∧ Plain (b.flatMap hexPair) := by
  intro b
  induction b with
  | nil => exact ⟨rfl, rfl, rfl, by simp [Plain]⟩
  | cons c b ih =>
    obtain ⟨h1, h2, h3, h4⟩ := ih
    have hc := c.toNat_lt
    have d1 := dig_hexD ⟨c.toNat / 16, by omega⟩
    have d2 := dig_hexD ⟨c.toNat % 16, by omega⟩
    dsimp only at d1 d2
    rw [List.flatMap_cons]
    have e : hexPair c ++ b.flatMap hexPair = hexD (c.toNat / 16) :: hexD (c.toNat % 16) :: b.flatMap hexPair := rfl
    rw [e]
    refine ⟨?_, ?_, ?_, ?_⟩
    · rw [bytesOf, h1, d1.1, d2.1]
      congr 1
      apply UInt8.toNat_inj.1
      rw [UInt8.toNat_ofNat']
      omega
    · rw [List.all_cons, List.all_cons, d1.2.1, d2.2.1, h2]; rfl
    · simp only [List.length_cons, h3]; omega
    · intro hx
      rcases List.mem_cons.1 hx with hx | hx
      · exact d1.2.2 hx.symm
      · rcases List.mem_cons.1 hx with hx | hx
        · exact d2.2.2 hx.symm
        · exact h4 hx
theorem hex_bytes : ∀ (n : Nat) (y : Bytes), y.length ≤ n → y.length % 2 = 0 → y.all isHexD = true → (bytesOf y).flatMap hexPair = y := by
  intro n
  induction n with
  | zero =>
    intro y h _ _
    have : y = [] := List.eq_nil_of_length_eq_zero (by omega)
    subst this; rfl
  | succ n ih =>
    intro y h he ha
    match y, h, he, ha with
    | [], _, _, _ => rfl
    | [a], _, he, _ => simp at he
    | a :: b :: l, h, he, ha =>
      simp only [List.length_cons] at h he
      rw [List.all_cons, List.all_cons, Bool.and_eq_true, Bool.and_eq_true] at ha
      have ia := hexD_dig a ha.1
      have ib := hexD_dig b ha.2.1
      have la := dig_lt a
      have lb := dig_lt b
      rw [bytesOf, List.flatMap_cons, ih l (by omega) (by omega) ha.2.2]
      unfold hexPair
      rw [UInt8.toNat_ofNat']
      rw [show (16 * (dig31 a).toNat + (dig31 b).toNat) % 2 ^ 8 / 16 = (dig31 a).toNat by omega, show (16 * (dig31 a).toNat + (dig31 b).toNat) % 2 ^ 8 % 16 = (dig31 b).toNat by omega, ia, ib]
      rfl
/-- A word that is some bytes'. -/
def hexWord (s : Bytes) : Option Bytes := if s = [45] then some [] else if s = [] ∨ s.length % 2 = 1 ∨ s.all isHexD = false then none else some (bytesOf s)
theorem hexWord_hex (b : Bytes) : hexWord (hex31 b) = some b := by
  unfold hexWord hex31
  cases b with
  | nil => rfl
  | cons c b =>
    obtain ⟨h1, h2, h3, h4⟩ := bytes_hex (c :: b)
    rw [if_neg (show ¬ (c :: b) = [] from fun e => by cases e)]
    generalize (c :: b).flatMap hexPair = y at h1 h2 h3 h4
    rw [if_neg (by intro e; subst e; simp at h3; omega), if_neg ?_, h1]
    rintro (e | e | e)
    · subst e; simp at h3
    · omega
    · rw [h2] at e; cases e
theorem hexWord_some {y b : Bytes} (h : hexWord y = some b) : hex31 b = y ∧ (y = [45] → b = []) ∧ (¬ y = [45] → b = bytesOf y) := by
  unfold hexWord at h
  by_cases h1 : y = [45]
  · rw [if_pos h1] at h; cases h
    exact ⟨h1.symm, fun _ => rfl, fun h => absurd h1 h⟩
  · rw [if_neg h1] at h
    split at h
    · cases h
    · rename_i h2
      cases h
      have h3 : y.length % 2 = 0 := by
        rcases Nat.mod_two_eq_zero_or_one y.length with h | h
        · exact h
        · exact absurd (.inr (.inl h)) h2
      have h4 : y.all isHexD = true := by
        cases h : y.all isHexD
        · exact absurd (.inr (.inr h)) h2
        · rfl
      have h5 := hex_bytes _ y (Nat.le_refl _) h3 h4
      refine ⟨?_, fun h => absurd h h1, fun _ => rfl⟩
      unfold hex31
      rw [if_neg ?_, h5]
      intro e
      rw [e] at h5
      exact h2 (.inl h5.symm)
theorem hex_plain (b : Bytes) : Plain (hex31 b) := by
  unfold hex31
  split
  · simp [Plain]
  · exact (bytes_hex b).2.2.2
/-- What the words behind feed say. -/
def sfates : List Bytes → Option (List (Int × Int))
  | [] => some []
  | [x] => if x = goodW then some [(0, 0)] else none
  | x :: y :: l => if x = goodW then (sfates (y :: l)).map ((0, 0) :: ·) else if x = failW then (match numWord y with | none => none | some n => (sfates l).map ((1, n) :: ·)) else none
theorem sfates_good (l : List Bytes) : sfates (goodW :: l) = (sfates l).map ((0, 0) :: ·) := by
  cases l with
  | nil => rfl
  | cons y l => rw [sfates, if_pos rfl]
theorem sfates_fail (y : Bytes) (l : List Bytes) : sfates (failW :: y :: l) = (match numWord y with | none => none | some n => (sfates l).map ((1, n) :: ·)) := by
  rw [sfates, if_neg (by decide), if_pos rfl]
theorem sfates_last : sfates [failW] = none := by rw [sfates, if_neg (by decide)]
theorem sfates_other (x : Bytes) (l : List Bytes) (h1 : ¬ x = goodW) (h2 : ¬ x = failW) : sfates (x :: l) = none := by
  cases l with
  | nil => rw [sfates, if_neg h1]
  | cons y l => rw [sfates, if_neg h1, if_neg h2]
def spicks : List Bytes → Option (List Int)
  | [] => some []
  | x :: l => match numWord x with | none => none | some n => (spicks l).map (n :: ·)
/-- What the words behind a head say. -/
def sbody (k : Int) (t : List Bytes) : Option Ev :=
  if k = 1 then (match t with | [] => some ⟨1, 0, [], [], []⟩ | _ => none)
  else if k = 2 then (match t with | [x, y] => (match numWord x with | none => none | some n => (hexWord y).map fun b => ⟨2, n, b, [], []⟩) | _ => none)
  else if k = 3 then (match t with | [x] => (numWord x).map fun n => ⟨3, n, [], [], []⟩ | _ => none)
  else if k = 4 then (sfates t).map fun fs => ⟨4, 0, [], fs, []⟩
  else if k = 5 then (spicks t).map fun ps => ⟨5, 0, [], [], ps⟩
  else none
/-- Which event a line is: as the program reads it. -/
def sread (s : Bytes) : Option Ev := match sbody (kindOf ((words31 s).headD [])) (words31 s).tail with | none => none | some e => if may31 e = true then some e else none
/-- Fates' words. -/
def fateWords (f : Int × Int) : List Bytes := if f.1 = 0 then [goodW] else [failW, Lib.itoa f.2]
theorem fates_rest : ∀ (l : List (Int × Int)), l.flatMap fate31 = restOf (l.flatMap fateWords) := by
  intro l
  induction l with
  | nil => rfl
  | cons f l ih =>
    rw [List.flatMap_cons, List.flatMap_cons, restOf_app, ih]
    congr 1
    unfold fate31 fateWords
    split
    · rfl
    · rw [restOf_cons, restOf_cons, restOf_nil]; simp [failB, failW]
theorem fate_plain : ∀ (l : List (Int × Int)), ∀ x ∈ l.flatMap fateWords, Plain x := by
  intro l x hx
  obtain ⟨f, _, hf⟩ := List.mem_flatMap.1 hx
  unfold fateWords at hf
  split at hf
  · have : x = goodW := by simpa using hf
    subst this; unfold Plain goodW; decide
  · rcases List.mem_cons.1 hf with hf | hf
    · subst hf; unfold Plain failW; decide
    · have : x = Lib.itoa f.2 := by simpa using hf
      subst this; exact itoa_blank _
theorem sfates_back : ∀ (l : List (Int × Int)), l.all fateOk = true → (∀ f ∈ l, i64 f.2) → sfates (l.flatMap fateWords) = some l := by
  intro l
  induction l with
  | nil => intro _ _; rfl
  | cons f l ih =>
    intro h hn
    rw [List.all_cons, Bool.and_eq_true] at h
    have ih' := ih h.2 (fun g hg => hn g (by simp [hg]))
    have h1 := h.1
    unfold fateOk at h1
    rw [Bool.or_eq_true, beq_iff_eq, beq_iff_eq] at h1
    rw [List.flatMap_cons]
    obtain ⟨k, n⟩ := f
    have hnn := hn (k, n) (by simp)
    unfold fateWords
    rcases h1 with h1 | h1
    · have hk : k = 1 := h1
      subst hk
      rw [if_neg (by show ¬ (1 : Int) = 0; decide)]
      show sfates (failW :: Lib.itoa n :: (l.flatMap fateWords)) = _
      rw [sfates_fail, numWord_itoa n hnn]
      dsimp only
      rw [ih']; rfl
    · cases h1
      rw [if_pos rfl]
      show sfates (goodW :: (l.flatMap fateWords)) = _
      rw [sfates_good, ih']; rfl
theorem sfates_some : ∀ (m : Nat) (t : List Bytes) (fs : List (Int × Int)), t.length ≤ m → sfates t = some fs → t = fs.flatMap fateWords ∧ fatesOf t = fs ∧ ∀ f ∈ fs, i64 f.2 := by
  intro m
  induction m with
  | zero =>
    intro t fs hm h
    have : t = [] := List.eq_nil_of_length_eq_zero (by omega)
    subst this; cases h
    exact ⟨rfl, rfl, fun _ h => by cases h⟩
  | succ m ih =>
    intro t fs hm h
    cases t with
    | nil => cases h; exact ⟨rfl, rfl, fun _ h => by cases h⟩
    | cons x l =>
      by_cases hg : x = goodW
      · subst hg
        rw [sfates_good] at h
        obtain ⟨gs, h1, rfl⟩ := Option.map_eq_some_iff.1 h
        obtain ⟨e1, e2, e3⟩ := ih l gs (by simp at hm; omega) h1
        refine ⟨?_, by rw [fatesOf_good, e2], fun f hf => ?_⟩
        · rw [List.flatMap_cons, ← e1]; rfl
        · rcases List.mem_cons.1 hf with rfl | hf
          · exact ⟨by decide, by decide⟩
          · exact e3 f hf
      · by_cases hf : x = failW
        · subst hf
          cases l with
          | nil => rw [sfates_last] at h; cases h
          | cons y l =>
            rw [sfates_fail] at h
            cases hy : numWord y with
            | none => rw [hy] at h; cases h
            | some n =>
              rw [hy] at h
              obtain ⟨gs, h1, rfl⟩ := Option.map_eq_some_iff.1 h
              obtain ⟨e1, e2, e3⟩ := ih l gs (by simp at hm; omega) h1
              obtain ⟨n1, n2⟩ := numWord_some hy
              obtain ⟨x1, x2⟩ := itoa_not n
              refine ⟨?_, ?_, fun f hf => ?_⟩
              · rw [List.flatMap_cons, ← e1, n1]; rfl
              · rw [fatesOf_fail, n1, fatesOf_other _ _ x1 x2, e2, itoa_number n n2]
              · rcases List.mem_cons.1 hf with rfl | hf
                · exact n2
                · exact e3 f hf
        · rw [sfates_other x l hg hf] at h; cases h
theorem picks_rest : ∀ (l : List Int), l.flatMap pick31 = restOf (l.map Lib.itoa) := by
  intro l
  induction l with
  | nil => rfl
  | cons n l ih => rw [List.flatMap_cons, List.map_cons, restOf_cons, ih]; rfl
theorem spicks_back : ∀ (l : List Int), (∀ n ∈ l, i64 n) → spicks (l.map Lib.itoa) = some l := by
  intro l
  induction l with
  | nil => intro _; rfl
  | cons n l ih =>
    intro hn
    rw [List.map_cons, spicks, numWord_itoa n (hn n (by simp))]
    dsimp only
    rw [ih (fun m hm => hn m (by simp [hm]))]; rfl
theorem spicks_some : ∀ (t : List Bytes) (ps : List Int), spicks t = some ps → t = ps.map Lib.itoa ∧ t.map number31 = ps ∧ ∀ n ∈ ps, i64 n := by
  intro t
  induction t with
  | nil => intro ps h; cases h; exact ⟨rfl, rfl, fun _ h => by cases h⟩
  | cons x t ih =>
    intro ps h
    rw [spicks] at h
    cases hx : numWord x with
    | none => rw [hx] at h; cases h
    | some n =>
      rw [hx] at h
      obtain ⟨qs, h1, rfl⟩ := Option.map_eq_some_iff.1 h
      obtain ⟨e1, e2, e3⟩ := ih qs h1
      obtain ⟨n1, n2⟩ := numWord_some hx
      refine ⟨by rw [List.map_cons, ← e1, n1], by rw [List.map_cons, e2, n1, itoa_number n n2], fun m hm => ?_⟩
      rcases List.mem_cons.1 hm with rfl | hm
      · exact n2
      · exact e3 m hm
theorem kindOf_cases (x : Bytes) : (kindOf x = 1 ∧ x = connectB) ∨ (kindOf x = 2 ∧ x = sendB) ∨ (kindOf x = 3 ∧ x = closeB) ∨ (kindOf x = 4 ∧ x = feedB) ∨ (kindOf x = 5 ∧ x = crashB) ∨ kindOf x = 0 := by
  unfold kindOf
  by_cases h1 : x = connectB
  · rw [if_pos h1]; exact .inl ⟨rfl, h1⟩
  rw [if_neg h1]
  by_cases h2 : x = sendB
  · rw [if_pos h2]; exact .inr (.inl ⟨rfl, h2⟩)
  rw [if_neg h2]
  by_cases h3 : x = closeB
  · rw [if_pos h3]; exact .inr (.inr (.inl ⟨rfl, h3⟩))
  rw [if_neg h3]
  by_cases h4 : x = feedB
  · rw [if_pos h4]; exact .inr (.inr (.inr (.inl ⟨rfl, h4⟩)))
  rw [if_neg h4]
  by_cases h5 : x = crashB
  · rw [if_pos h5]; exact .inr (.inr (.inr (.inr (.inl ⟨rfl, h5⟩))))
  rw [if_neg h5]; exact .inr (.inr (.inr (.inr (.inr rfl))))
/-- What the words say is the event of which they are told. -/
theorem sbody_some {x : Bytes} {t : List Bytes} {e : Ev} (h : sbody (kindOf x) t = some e) : line31 e = x ++ restOf t ∧ cand31 (x :: t) = e ∧ e.nums := by
  have hn0 : i64 0 := ⟨by decide, by decide⟩
  rcases kindOf_cases x with ⟨hk, hx⟩ | ⟨hk, hx⟩ | ⟨hk, hx⟩ | ⟨hk, hx⟩ | ⟨hk, hx⟩ | hk
  · rw [hk] at h
    unfold sbody at h
    rw [if_pos rfl] at h
    cases t with
    | nil =>
      cases h
      subst hx
      exact ⟨rfl, rfl, hn0, (fun _ h => by cases h), (fun _ h => by cases h)⟩
    | cons y t => cases h
  · rw [hk] at h
    unfold sbody at h
    rw [if_neg (by decide), if_pos rfl] at h
    match t, h with
    | [], h => cases h
    | [_], h => cases h
    | _ :: _ :: _ :: _, h => cases h
    | [y, z], h =>
      dsimp only at h
      cases hy : numWord y with
      | none => rw [hy] at h; cases h
      | some n =>
        rw [hy] at h
        obtain ⟨b, h1, rfl⟩ := Option.map_eq_some_iff.1 h
        obtain ⟨n1, n2⟩ := numWord_some hy
        obtain ⟨b1, b2, b3⟩ := hexWord_some h1
        subst hx
        refine ⟨?_, ?_, n2, (fun _ h => by cases h), (fun _ h => by cases h)⟩
        · unfold line31
          dsimp only
          rw [if_neg (by decide), if_pos rfl, b1, ← n1, restOf_cons, restOf_cons, restOf_nil]
          simp
        · show (⟨2, number31 y, (if z = [45] then [] else bytesOf z), [], []⟩ : Ev) = _
          rw [n1, itoa_number n n2]
          by_cases hz : z = [45]
          · rw [if_pos hz, b2 hz]
          · rw [if_neg hz, b3 hz]
  · rw [hk] at h
    unfold sbody at h
    rw [if_neg (by decide), if_neg (by decide), if_pos rfl] at h
    match t, h with
    | [], h => cases h
    | _ :: _ :: _, h => cases h
    | [y], h =>
      dsimp only at h
      obtain ⟨n, h1, rfl⟩ := Option.map_eq_some_iff.1 h
      obtain ⟨n1, n2⟩ := numWord_some h1
      subst hx
      refine ⟨?_, ?_, n2, (fun _ h => by cases h), (fun _ h => by cases h)⟩
      · unfold line31
        dsimp only
        rw [if_neg (by decide), if_neg (by decide), if_pos rfl, ← n1, restOf_cons, restOf_nil]
        simp
      · show (⟨3, number31 y, [], [], []⟩ : Ev) = _
        rw [n1, itoa_number n n2]
  · rw [hk] at h
    unfold sbody at h
    rw [if_neg (by decide), if_neg (by decide), if_neg (by decide), if_pos rfl] at h
    obtain ⟨fs, h1, rfl⟩ := Option.map_eq_some_iff.1 h
    obtain ⟨e1, e2, e3⟩ := sfates_some _ t fs (Nat.le_refl _) h1
    subst hx
    refine ⟨?_, ?_, hn0, e3, fun _ h => by cases h⟩
    · unfold line31
      dsimp only
      rw [if_neg (by decide), if_neg (by decide), if_neg (by decide), if_pos rfl, fates_rest, ← e1]
    · show (⟨4, 0, [], fatesOf t, []⟩ : Ev) = _
      rw [e2]
  · rw [hk] at h
    unfold sbody at h
    rw [if_neg (by decide), if_neg (by decide), if_neg (by decide), if_neg (by decide), if_pos rfl] at h
    obtain ⟨ps, h1, rfl⟩ := Option.map_eq_some_iff.1 h
    obtain ⟨e1, e2, e3⟩ := spicks_some t ps h1
    subst hx
    refine ⟨?_, ?_, hn0, (fun _ h => by cases h), e3⟩
    · unfold line31
      dsimp only
      rw [if_neg (by decide), if_neg (by decide), if_neg (by decide), if_neg (by decide), picks_rest, ← e1]
    · show (⟨5, 0, [], [], t.map number31⟩ : Ev) = _
      rw [e2]
  · rw [hk] at h
    unfold sbody at h
    rw [if_neg (by decide), if_neg (by decide), if_neg (by decide), if_neg (by decide), if_neg (by decide)] at h
    cases h
theorem may_parts {e : Ev} (h : may31 e = true) : (e.kind = 1 ∨ e.kind = 2 ∨ e.kind = 3 ∨ e.kind = 4 ∨ e.kind = 5) ∧ (e.kind = 2 ∨ e.kind = 3 ∨ e.conn = 0) ∧ (e.kind = 2 ∨ e.bytes = []) ∧ (e.kind = 4 ∨ e.fates = []) ∧ (e.kind = 5 ∨ e.picks = []) ∧ e.fates.all fateOk = true ∧ e.bytes.length ≤ 1048576 ∧ e.fates.length ≤ 65536 ∧ e.picks.length ≤ 65536 := by
  unfold may31 at h
  simp only [Bool.and_eq_true, Bool.or_eq_true, beq_iff_eq, decide_eq_true_eq, List.isEmpty_iff] at h
  obtain ⟨⟨⟨⟨⟨⟨⟨⟨⟨h1, h2⟩, h3⟩, h4⟩, h5⟩, h6⟩, h7⟩, h8⟩, h9⟩, h10⟩ := h
  exact ⟨by omega, by rcases h6 with (h | h) | h <;> simp [h], h7, h8, h9, h10, h3, h4, h5⟩
/-- An event's line is read as the event. -/
theorem line_back {e : Ev} (hm : may31 e = true) (hn : e.nums) : ∃ x t, Plain x ∧ (∀ y ∈ t, Plain y) ∧ line31 e = x ++ restOf t ∧ sbody (kindOf x) t = some e := by
  obtain ⟨hk, hc, hb, hf, hp, hfo, _⟩ := may_parts hm
  obtain ⟨k, cn, bs, fs, ps⟩ := e
  obtain ⟨n1, n2, n3⟩ := hn
  dsimp only at hk hc hb hf hp hfo n1 n2 n3
  have pl : ∀ n, Plain (Lib.itoa n) := itoa_blank
  rcases hk with rfl | rfl | rfl | rfl | rfl
  · have hc' : cn = 0 := by rcases hc with h | h | h; omega; omega; exact h
    have hb' : bs = [] := by rcases hb with h | h; omega; exact h
    have hf' : fs = [] := by rcases hf with h | h; omega; exact h
    have hp' : ps = [] := by rcases hp with h | h; omega; exact h
    subst hc' hb' hf' hp'
    exact ⟨connectB, [], by unfold Plain connectB; decide, (fun _ h => by cases h), rfl, rfl⟩
  · have hf' : fs = [] := by rcases hf with h | h; omega; exact h
    have hp' : ps = [] := by rcases hp with h | h; omega; exact h
    subst hf' hp'
    refine ⟨sendB, [Lib.itoa cn, hex31 bs], by unfold Plain sendB; decide, ?_, ?_, ?_⟩
    · intro y hy
      rcases List.mem_cons.1 hy with hy | hy
      · subst hy; exact pl cn
      · have : y = hex31 bs := by simpa using hy
        subst this; exact hex_plain bs
    · unfold line31
      dsimp only
      rw [if_neg (by decide), if_pos rfl, restOf_cons, restOf_cons, restOf_nil]
      simp
    · show (match numWord (Lib.itoa cn) with | none => none | some n => (hexWord (hex31 bs)).map fun b => (⟨2, n, b, [], []⟩ : Ev)) = _
      rw [numWord_itoa cn n1, hexWord_hex]; rfl
  · have hb' : bs = [] := by rcases hb with h | h; omega; exact h
    have hf' : fs = [] := by rcases hf with h | h; omega; exact h
    have hp' : ps = [] := by rcases hp with h | h; omega; exact h
    subst hb' hf' hp'
    refine ⟨closeB, [Lib.itoa cn], by unfold Plain closeB; decide, ?_, ?_, ?_⟩
    · intro y hy
      have : y = Lib.itoa cn := by simpa using hy
      subst this; exact pl cn
    · unfold line31
      dsimp only
      rw [if_neg (by decide), if_neg (by decide), if_pos rfl, restOf_cons, restOf_nil]
      simp
    · show ((numWord (Lib.itoa cn)).map fun n => (⟨3, n, [], [], []⟩ : Ev)) = _
      rw [numWord_itoa cn n1]; rfl
  · have hc' : cn = 0 := by rcases hc with h | h | h; omega; omega; exact h
    have hb' : bs = [] := by rcases hb with h | h; omega; exact h
    have hp' : ps = [] := by rcases hp with h | h; omega; exact h
    subst hc' hb' hp'
    refine ⟨feedB, fs.flatMap fateWords, by unfold Plain feedB; decide, fate_plain fs, ?_, ?_⟩
    · unfold line31
      dsimp only
      rw [if_neg (by decide), if_neg (by decide), if_neg (by decide), if_pos rfl, fates_rest]
    · show ((sfates (fs.flatMap fateWords)).map fun gs => (⟨4, 0, [], gs, []⟩ : Ev)) = _
      rw [sfates_back fs hfo n2]; rfl
  · have hc' : cn = 0 := by rcases hc with h | h | h; omega; omega; exact h
    have hb' : bs = [] := by rcases hb with h | h; omega; exact h
    have hf' : fs = [] := by rcases hf with h | h; omega; exact h
    subst hc' hb' hf'
    refine ⟨crashB, ps.map Lib.itoa, by unfold Plain crashB; decide, ?_, ?_, ?_⟩
    · intro y hy
      obtain ⟨n, _, rfl⟩ := List.mem_map.1 hy
      exact pl n
    · unfold line31
      dsimp only
      rw [if_neg (by decide), if_neg (by decide), if_neg (by decide), if_neg (by decide), picks_rest]
    · show ((spicks (ps.map Lib.itoa)).map fun qs => (⟨5, 0, [], [], qs⟩ : Ev)) = _
      rw [spicks_back ps n3]; rfl
theorem sread_line {e : Ev} (hm : may31 e = true) (hn : e.nums) : sread (line31 e) = some e := by
  obtain ⟨x, t, h1, h2, h3, h4⟩ := line_back hm hn
  unfold sread
  rw [h3, words_join x t h1 h2]
  dsimp only [List.headD, List.tail]
  rw [h4]
  dsimp only
  rw [if_pos hm]
theorem sread_some {s : Bytes} {e : Ev} (h : sread s = some e) : may31 e = true ∧ e.nums ∧ line31 e = s ∧ cand31 (words31 s) = e := by
  obtain ⟨x, t, hw, hs, _, _⟩ := words_split s
  unfold sread at h
  rw [hw] at h
  dsimp only [List.headD, List.tail] at h
  cases hb : sbody (kindOf x) t with
  | none => rw [hb] at h; cases h
  | some e' =>
    rw [hb] at h
    dsimp only at h
    split at h
    · rename_i hm
      cases h
      obtain ⟨e1, e2, e3⟩ := sbody_some hb
      exact ⟨hm, e3, by rw [e1, hs], by rw [hw]; exact e2⟩
    · cases h
/-- The program reads as the document. -/
theorem sread_read (s : Bytes) : sread s = read31 s := by
  cases h : sread s with
  | some e =>
    obtain ⟨h1, h2, h3, h4⟩ := sread_some h
    unfold read31
    rw [h4, if_pos ⟨h1, h3⟩]
  | none =>
    cases h2 : read31 s with
    | none => rfl
    | some e =>
      unfold read31 at h2
      split at h2
      · rename_i hc
        cases h2
        have := sread_line hc.1 (cand_nums _)
        rw [hc.2, h] at this
        cases this
      · cases h2
end Go.Proofs.YtimglodailhkaaaGreat
