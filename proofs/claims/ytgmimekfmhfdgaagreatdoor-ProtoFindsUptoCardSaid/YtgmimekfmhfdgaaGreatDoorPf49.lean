/-
  Part 49 of the proof of ProtoFinds.
-/
import Derived.Test.YtgmimekfmhfdgaaGreatDoorPf47
import Derived.Test.YtgmimekfmhfdgaaGreatDoorPf48
import Derived.Test.YtgmimekfmhfdgaaGreatDoorPf39
namespace Go.Proofs.YtgmimekfmhfdgaaGreatDoor
open Go Go.RowKit
theorem oN {F1 F2:Nat→Prop} (t t':Tree) (x0 x1 x2 x3 y0 y1 y2 y3:Value) (q:Bool) (w:World) (h1:bp F1 w [x0,x1,x2,x3] t) (h2:bp F2 w [y0,y1,y2,y3] t') (hI1:gh t) (hI2:gh t') (hq:eqT t t'=q) :
  Calls Tryz.prog 13 #[.agg #[x0,x1,x2,x3],.agg #[y0,y1,y2,y3]] w fun e w'=>e=.returned (.bool q)∧Fr No w w':=by
 have h:=yC t t' [x0,x1,x2,x3] [y0,y1,y2,y3] w h1 h2 hI1 hI2;rw[hq]at h
 exact h
end Go.Proofs.YtgmimekfmhfdgaaGreatDoor
