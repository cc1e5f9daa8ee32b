/-
  Events and their lines, in plain terms: lists of bytes, no program.
-/
namespace Go.Proofs.YtimglodailhkaaaGreat
abbrev Bytes := List UInt8
/-- An event. -/
structure Ev where
  kind : Int
  conn : Int
  bytes : Bytes
  fates : List (Int × Int)
  picks : List Int
  deriving DecidableEq
def Ev.none : Ev := ⟨0, 0, [], [], []⟩
def same31 (a b : Ev) : Bool := a.kind == b.kind && a.conn == b.conn && a.bytes == b.bytes && a.fates == b.fates && a.picks == b.picks
theorem same31_iff {a b : Ev} : same31 a b = true ↔ a = b := by
  unfold same31
  simp only [Bool.and_eq_true, beq_iff_eq]
  constructor
  · rintro ⟨⟨⟨⟨h1, h2⟩, h3⟩, h4⟩, h5⟩
    cases a; cases b; simp_all
  · rintro rfl; exact ⟨⟨⟨⟨rfl, rfl⟩, rfl⟩, rfl⟩, rfl⟩
def fateOk (f : Int × Int) : Bool := f.1 == 1 || f == (0, 0)
/-- May an event be? -/
def may31 (e : Ev) : Bool :=
  decide (1 ≤ e.kind) && decide (e.kind ≤ 5) && decide (e.bytes.length ≤ 1048576) && decide (e.fates.length ≤ 65536) && decide (e.picks.length ≤ 65536) &&
  (e.kind == 2 || e.kind == 3 || e.conn == 0) && (e.kind == 2 || e.bytes.isEmpty) && (e.kind == 4 || e.fates.isEmpty) && (e.kind == 5 || e.picks.isEmpty) && e.fates.all fateOk
end Go.Proofs.YtimglodailhkaaaGreat
