/-
  What the rows' lists give a walk; a world for the witness.
-/
import Derived.Test.YtbdheihjnkfpiaaGreatDoorCards
import Derived.Test.YtbdheihjnkfpiaaGreatDoorTie
import Derived.Test.YtbdheihjnkfpiaaGreatDoorWw
import Derived.WalkKit
import Derived.ProofKit
import Derived.OpenShut
import Derived.ChangeMaps5
import Derived.LaidHandle
import Derived.LaidSub
import Derived.MakeChecks
import Derived.Stop.LaidErr
import Derived.Deep.DeepHandedRow
import Derived.Deep.DeepLaidRun
import Derived.Lib.LaidTab
namespace Go.Proofs.YtbdheihjnkfpiaaGreatDoor
open Go Go.ChangeShapes Go.WideShapes Go.ChangeAt Go.RowKit

theorem own : ownKnob Tryz.prog.godebug = none := by kernel_rfl
/-- What all rows of this seat list. -/
def laidAll : List (String × DataW Unit) := [("math/bits.deBruijn32tab", Rows.laid_math_bits_deBruijn32tab), ("math/bits.deBruijn64tab", Rows.laid_math_bits_deBruijn64tab), ("internal/strconv.uint64pow10", Rows.laid_internal_strconv_uint64pow10), ("unicode/utf8.acceptRanges", Rows.laid_unicode_utf8_acceptRanges), ("strconv.ErrRange", Rows.laid_strconv_ErrRange), ("strconv.ErrSyntax", Rows.laid_strconv_ErrSyntax), ("unicode/utf8.first", Rows.laid_unicode_utf8_first)]
theorem gPow : Tryz.prog.globalNamed "internal/strconv.uint64pow10" = some 1 := by kernel_rfl
theorem gPowType : (Tryz.prog.globals[1]?).map (·.type) = some 115 := by kernel_rfl
theorem cellsPow : Tryz.prog.cellsOf 115 = 20 := by kernel_rfl
theorem cellsU64 : Tryz.prog.cellsOf 31 = 1 := by kernel_rfl
theorem laid_plain {W : World} (h : laidMetH Tryz.prog laidAll W) : laidMet Tryz.prog laidAll W := by
  rw [Go.MakeChecks.laidMetH_plain _ _ _ (by kernel_rfl)] at h
  exact h
theorem tabOf {W : World} (h : laidMetH Tryz.prog laidAll W) : Lib.TabIs Tryz.prog W "internal/strconv.uint64pow10" .u64 Lib.pow10Tab := by
  have h1 := (laid_plain h).filter (fun x => x.1 == "internal/strconv.uint64pow10")
  have e : laidAll.filter (fun x => x.1 == "internal/strconv.uint64pow10") = [("internal/strconv.uint64pow10", Lib.tabData .u64 Lib.pow10Tab)] := by kernel_rfl
  rw [e] at h1
  exact Lib.tabIs_of_head (rest := []) gPow gPowType Tryz.underlying115 Tryz.underlying31 cellsU64 cellsPow h1
theorem gRange : Tryz.prog.globalNamed "strconv.ErrRange" = some 5 := by kernel_rfl
theorem gSyntax : Tryz.prog.globalNamed "strconv.ErrSyntax" = some 4 := by kernel_rfl
theorem gRangeType : (Tryz.prog.globals[5]?).map (·.type) = some 60 := by kernel_rfl
theorem gSyntaxType : (Tryz.prog.globals[4]?).map (·.type) = some 60 := by kernel_rfl
theorem cellsErr : Tryz.prog.cellsOf 157 = 1 := by kernel_rfl
theorem cellsStr : Tryz.prog.cellsOf 9 = 1 := by kernel_rfl
theorem starErr : "*" ++ "errors.errorString" = "*errors.errorString" := by decide
theorem nameErr (u : TypeId) (h : Tryz.prog.typeName? 3 u = some "*errors.errorString") : u = 155 :=
  typeName_ptr_named (nm := "errors.errorString") (by rw [starErr]; kernel_rfl) (by kernel_rfl) (by decide) u (by rw [starErr]; exact h)
theorem varsOf {W : World} (h : laidMetH Tryz.prog laidAll W) : Vars W := by
  have h1 := (laid_plain h).filter (fun x => x.1 == "strconv.ErrRange")
  have h2 := (laid_plain h).filter (fun x => x.1 == "strconv.ErrSyntax")
  have e1 : laidAll.filter (fun x => x.1 == "strconv.ErrRange") = [("strconv.ErrRange", Rows.laid_strconv_ErrRange)] := by kernel_rfl
  have e2 : laidAll.filter (fun x => x.1 == "strconv.ErrSyntax") = [("strconv.ErrSyntax", Rows.laid_strconv_ErrSyntax)] := by kernel_rfl
  rw [e1] at h1
  rw [e2] at h2
  obtain ⟨a, s, hv, _⟩ := laid_sentinel h1 gRange gRangeType Tryz.underlying60 nameErr Tryz.underlying155 Tryz.underlying157 rfl rfl Tryz.underlying9 cellsErr cellsStr
  obtain ⟨b, u, hw, _⟩ := laid_sentinel h2 gSyntax gSyntaxType Tryz.underlying60 nameErr Tryz.underlying155 Tryz.underlying157 rfl rfl Tryz.underlying9 cellsErr cellsStr
  exact ⟨⟨_, by simpa using World.var?_cell gRange hv 0, .inr ⟨_, _, rfl⟩⟩, ⟨_, by simpa using World.var?_cell gSyntax hw 0, .inr ⟨_, _, rfl⟩⟩⟩

/-- A WORLD FOR THE WITNESS: the settled one, each listed variable holding what its text lays. -/
def putObj (vs : List Value) : Obj → Obj
  | .cells _ t frozen => .cells vs.toArray t frozen
  | o => o
def leafOf : DataW Unit → List Value
  | .lit l => [l.value]
  | _ => []
def rowOf : DataW Unit → List Value
  | .agg ds => ds.flatMap leafOf
  | d => leafOf d
def rowsOf : DataW Unit → List Value
  | .agg ds => ds.flatMap rowOf
  | d => leafOf d
noncomputable def lowB : Nat := (World.holding Tryz.prog default ⟨#[], #[], []⟩).heap.size
noncomputable def laidWorld (os : Os) : World :=
  let w0 := World.holding Tryz.prog os ⟨#[.cells #[.string ⟨#[118, 97, 108, 117, 101, 32, 111, 117, 116, 32, 111, 102, 32, 114, 97, 110, 103, 101]⟩] 157, .cells #[.string ⟨#[105, 110, 118, 97, 108, 105, 100, 32, 115, 121, 110, 116, 97, 120]⟩] 157], #[], []⟩
  { w0 with heap := ((((((w0.heap.modify 2 (putObj (rowsOf Rows.laid_math_bits_deBruijn32tab))).modify 3 (putObj (rowsOf Rows.laid_math_bits_deBruijn64tab))).modify 1 (putObj (rowsOf Rows.laid_internal_strconv_uint64pow10))).modify 7 (putObj (rowsOf Rows.laid_unicode_utf8_acceptRanges))).modify 6 (putObj (rowsOf Rows.laid_unicode_utf8_first))).modify 5 (putObj [.iface 155 (.pointer (some ⟨lowB, 0, none⟩))])).modify 4 (putObj [.iface 155 (.pointer (some ⟨lowB + 1, 0, none⟩))]) }
set_option maxRecDepth 100000 in
theorem laid_run (os : Os) (args : Array Value) : (DataW.laidRun Tryz.prog ((laidWorld os).forCall (fun _ _ => 0) ⟨#[], args, []⟩).memory 8 (laidAll.map (·.1))).map (·.1) = some laidAll := by kernel_rfl
set_option maxRecDepth 100000 in
theorem laid_met (os : Os) (args : Array Value) : laidMet Tryz.prog laidAll ((laidWorld os).forCall (fun _ _ => 0) ⟨#[], args, []⟩).memory :=
  laidMet_of_run3 8 (laid_run os args) (by kernel_rfl) (by kernel_rfl)
end Go.Proofs.YtbdheihjnkfpiaaGreatDoor
