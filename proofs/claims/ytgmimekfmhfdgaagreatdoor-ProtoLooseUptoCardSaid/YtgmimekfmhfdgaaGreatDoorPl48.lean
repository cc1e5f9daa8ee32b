/-
  Part 48 of the proof of ProtoLoose and ProtoFinds.
-/
import Derived.Test.YtgmimekfmhfdgaaGreatDoorPl44
import Derived.Test.YtgmimekfmhfdgaaGreatDoorPl46
import Derived.Test.YtgmimekfmhfdgaaGreatDoorPl47
namespace Go.Proofs.YtgmimekfmhfdgaaGreatDoor
open Go Go.RowKit
theorem nW {F1 F2:Nat→Prop} (t t':Tree) (x0 x1 x2 x3 y0 y1 y2 y3:Value) (q:Bool) (w:World) (h1:bu F1 w [x0,x1,x2,x3] t) (h2:bu F2 w [y0,y1,y2,y3] t') (hI1:gZ t) (hI2:gZ t') (hq:eqT t t'=q) :
  Calls Tryz.prog 13 #[.agg #[x0,x1,x2,x3],.agg #[y0,y1,y2,y3]] w fun e w'=>e=.returned (.bool q)∧Fr No w w':=by
 have h:=B0 t t' [x0,x1,x2,x3] [y0,y1,y2,y3] w h1 h2 hI1 hI2;rw[hq]at h
 exact h
end Go.Proofs.YtgmimekfmhfdgaaGreatDoor
