/-
  What the rows' lists give a walk; a world for the witness.
-/
/-
  What the rows' lists give a walk; a world for the witness.
-/
import Derived.Test.YtjidpccgjiogbaaGreatDoorCards
import Derived.Test.YtjidpccgjiogbaaGreatDoorTie
import Derived.Test.YtjidpccgjiogbaaGreatDoorWk
import Derived.WalkKit
import Derived.ProofKit
import Derived.OpenShut
import Derived.ChangeMaps5
import Derived.LaidHandle
import Derived.LaidSub
import Derived.MakeChecks
import Derived.Stop.LaidErr
import Derived.Deep.DeepHandedRow
import Derived.Deep.DeepLaidRun
import Derived.Lib.LaidTab
namespace Go.Proofs.YtjidpccgjiogbaaGreatDoor
open Go Go.ChangeShapes Go.WideShapes Go.ChangeAt Go.RowKit

theorem own : ownKnob Tryz.prog.godebug = none := by kernel_rfl
/-- What all rows of this seat list. -/
def laidAll : List (String × DataW Unit) := [("math/bits.deBruijn32tab", Rows.laid_math_bits_deBruijn32tab), ("math/bits.deBruijn64tab", Rows.laid_math_bits_deBruijn64tab), ("internal/strconv.uint64pow10", Rows.laid_internal_strconv_uint64pow10)]
theorem gPow : Tryz.prog.globalNamed "internal/strconv.uint64pow10" = some 1 := by kernel_rfl
theorem gPowType : (Tryz.prog.globals[1]?).map (·.type) = some 141 := by kernel_rfl
theorem cellsPow : Tryz.prog.cellsOf 141 = 20 := by kernel_rfl
theorem cellsU64 : Tryz.prog.cellsOf 132 = 1 := by kernel_rfl
theorem laid_plain {W : World} (h : laidMetH Tryz.prog laidAll W) : laidMet Tryz.prog laidAll W := by
  rw [Go.MakeChecks.laidMetH_plain _ _ _ (by kernel_rfl)] at h
  exact h
theorem tabOf {W : World} (h : laidMetH Tryz.prog laidAll W) : Lib.TabIs Tryz.prog W "internal/strconv.uint64pow10" .u64 Lib.pow10Tab := by
  have h1 := (laid_plain h).filter (fun x => x.1 == "internal/strconv.uint64pow10")
  have e : laidAll.filter (fun x => x.1 == "internal/strconv.uint64pow10") = [("internal/strconv.uint64pow10", Lib.tabData .u64 Lib.pow10Tab)] := by kernel_rfl
  rw [e] at h1
  exact Lib.tabIs_of_head (rest := []) gPow gPowType Tryz.underlying141 Tryz.underlying132 cellsU64 cellsPow h1
theorem cellsStr : Tryz.prog.cellsOf 9 = 1 := by kernel_rfl
theorem varsOf {W : World} (h : laidMetH Tryz.prog laidAll W) : Vars True False W := ⟨fun _ => tabOf h, fun h => h.elim, fun h => h.elim⟩
/-- A WORLD FOR THE WITNESS: the settled one, each listed variable holding what its text lays. -/
def putObj (vs : List Value) : Obj → Obj
  | .cells _ t frozen => .cells vs.toArray t frozen
  | o => o
def leafOf : DataW Unit → List Value
  | .lit l => [l.value]
  | _ => []
def rowOf : DataW Unit → List Value
  | .agg ds => ds.flatMap leafOf
  | d => leafOf d
def rowsOf : DataW Unit → List Value
  | .agg ds => ds.flatMap rowOf
  | d => leafOf d
noncomputable def laidWorld (os : Os) : World :=
  let w0 := World.holding Tryz.prog os ⟨#[], #[], []⟩
  { w0 with heap := ((w0.heap.modify 2 (putObj (rowsOf Rows.laid_math_bits_deBruijn32tab))).modify 3 (putObj (rowsOf Rows.laid_math_bits_deBruijn64tab))).modify 1 (putObj (rowsOf Rows.laid_internal_strconv_uint64pow10)) }
set_option maxRecDepth 100000 in
theorem laid_run (os : Os) (args : Array Value) : (DataW.laidRun Tryz.prog ((laidWorld os).forCall (fun _ _ => 0) ⟨#[], args, []⟩).memory 8 (laidAll.map (·.1))).map (·.1) = some laidAll := by kernel_rfl
set_option maxRecDepth 100000 in
theorem laid_met (os : Os) (args : Array Value) : laidMet Tryz.prog laidAll ((laidWorld os).forCall (fun _ _ => 0) ⟨#[], args, []⟩).memory :=
  laidMet_of_run3 8 (laid_run os args) (by kernel_rfl) (by kernel_rfl)
end Go.Proofs.YtjidpccgjiogbaaGreatDoor
