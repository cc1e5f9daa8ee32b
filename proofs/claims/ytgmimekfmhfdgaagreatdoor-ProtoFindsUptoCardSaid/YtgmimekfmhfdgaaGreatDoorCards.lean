/-
  DERIVED. GIVEN WITH THE SEED: THE CARDS: each row of YtgmimekfmhfdgaaGreatDoorRows.lean that lists a variable, with what it lists TIED to the program's text (the seventh form; the later family's looks); each row that meets fmt, with fmt's text TOLD by the authors' own Lean function (tested against real Go, not proved from fmt's source: count such statements apart). THE CARD IS WHAT COUNTS. Prove the row's statement (the work); the ties are given (YtgmimekfmhfdgaaGreatDoorTie.lean); close each card by the builder's one call (the guide's Derived/Test/ToyasCard.lean, 'card_holds'). Laid BY PROGRAM, IN A SANDBOX (cutbox-door.mjs). By AI agents, Wed Nov 11 2026. No macro, syntax, notation, axiom, sorry.
-/
import Derived.Test.YtgmimekfmhfdgaaGreatDoorRows
import GoSem.ClaimSeven
namespace Go.Proofs.YtgmimekfmhfdgaaGreatDoor
namespace Rows

/-- THE TIED CARD OF 'lexiconlaw15.ProtoBounds'. -/
def protoBoundsCard : Claim7 := { stood := { row := protoBoundsRow, standIns := [], harness := (true, "9c13c23b9810d9bbf76e52655fdc0a3ab150ed8162792207b6fb9dc39d93e4cf"), looks := true }, kinds := [], alts := [], laidByText := true, laidKinds := [.data, .data, .data, .data, .sentinel, .sentinel, .pinned], laidTests := true, laidLooks := .later }
def ProtoBoundsCardSaid : Prop := Claim7.holds Tryz.pinned (.plain (OpenSpec.ofChange protoBoundsSpec)) protoBoundsCard

/-- THE TIED CARD OF 'lexiconlaw15.ProtoLoose'. -/
def protoLooseCard : Claim7 := { stood := { row := protoLooseRow, standIns := [], harness := (true, "9c13c23b9810d9bbf76e52655fdc0a3ab150ed8162792207b6fb9dc39d93e4cf"), looks := true }, kinds := [], alts := [], laidByText := true, laidKinds := [.data, .data, .data, .data, .sentinel, .sentinel, .pinned], laidTests := true, laidLooks := .later }
def ProtoLooseCardSaid : Prop := Claim7.holds Tryz.pinned (.plain (OpenSpec.ofChange protoLooseSpec)) protoLooseCard

/-- THE TIED CARD OF 'lexiconlaw15.ProtoBack'. -/
def protoBackCard : Claim7 := { stood := { row := protoBackRow, standIns := [], harness := (true, "9c13c23b9810d9bbf76e52655fdc0a3ab150ed8162792207b6fb9dc39d93e4cf"), looks := true }, kinds := [], alts := [], laidByText := true, laidKinds := [.data, .data, .data, .data, .sentinel, .sentinel, .pinned], laidTests := true, laidLooks := .later }
def ProtoBackCardSaid : Prop := Claim7.holds Tryz.pinned (.plain (OpenSpec.ofChange protoBackSpec)) protoBackCard

/-- THE TIED CARD OF 'lexiconlaw15.ProtoFinds'. -/
def protoFindsCard : Claim7 := { stood := { row := protoFindsRow, standIns := [], harness := (true, "9c13c23b9810d9bbf76e52655fdc0a3ab150ed8162792207b6fb9dc39d93e4cf"), looks := true }, kinds := [], alts := [], laidByText := true, laidKinds := [.data, .data, .data, .data, .sentinel, .sentinel, .pinned], laidTests := true, laidLooks := .later }
def ProtoFindsCardSaid : Prop := Claim7.holds Tryz.pinned (.plain (OpenSpec.ofChange protoFindsSpec)) protoFindsCard

/-- THE SECOND FORM's CARD OF 'lexiconlaw15.ProtoBounds'. -/
def protoBoundsUptoCard : Claim7 := { stood := { row := protoBoundsUptoRow, standIns := [], harness := (true, "9c13c23b9810d9bbf76e52655fdc0a3ab150ed8162792207b6fb9dc39d93e4cf"), looks := true }, kinds := [], alts := [], laidByText := true, laidKinds := [.data, .data, .data, .data, .sentinel, .sentinel, .pinned], laidTests := true, laidLooks := .later }
def ProtoBoundsUptoCardSaid : Prop := Claim7.holds Tryz.pinned (.plain (OpenSpec.upto protoBoundsSpec)) protoBoundsUptoCard

/-- THE SECOND FORM's CARD OF 'lexiconlaw15.ProtoLoose'. -/
def protoLooseUptoCard : Claim7 := { stood := { row := protoLooseUptoRow, standIns := [], harness := (true, "9c13c23b9810d9bbf76e52655fdc0a3ab150ed8162792207b6fb9dc39d93e4cf"), looks := true }, kinds := [], alts := [], laidByText := true, laidKinds := [.data, .data, .data, .data, .sentinel, .sentinel, .pinned], laidTests := true, laidLooks := .later }
def ProtoLooseUptoCardSaid : Prop := Claim7.holds Tryz.pinned (.plain (OpenSpec.upto protoLooseSpec)) protoLooseUptoCard

/-- THE SECOND FORM's CARD OF 'lexiconlaw15.ProtoBack'. -/
def protoBackUptoCard : Claim7 := { stood := { row := protoBackUptoRow, standIns := [], harness := (true, "9c13c23b9810d9bbf76e52655fdc0a3ab150ed8162792207b6fb9dc39d93e4cf"), looks := true }, kinds := [], alts := [], laidByText := true, laidKinds := [.data, .data, .data, .data, .sentinel, .sentinel, .pinned], laidTests := true, laidLooks := .later }
def ProtoBackUptoCardSaid : Prop := Claim7.holds Tryz.pinned (.plain (OpenSpec.upto protoBackSpec)) protoBackUptoCard

/-- THE SECOND FORM's CARD OF 'lexiconlaw15.ProtoFinds'. -/
def protoFindsUptoCard : Claim7 := { stood := { row := protoFindsUptoRow, standIns := [], harness := (true, "9c13c23b9810d9bbf76e52655fdc0a3ab150ed8162792207b6fb9dc39d93e4cf"), looks := true }, kinds := [], alts := [], laidByText := true, laidKinds := [.data, .data, .data, .data, .sentinel, .sentinel, .pinned], laidTests := true, laidLooks := .later }
def ProtoFindsUptoCardSaid : Prop := Claim7.holds Tryz.pinned (.plain (OpenSpec.upto protoFindsSpec)) protoFindsUptoCard
end Rows
end Go.Proofs.YtgmimekfmhfdgaaGreatDoor
