/-
  DERIVED. GIVEN WITH THE SEED: THE CARDS: each row of YtogphdkefnmkoaaGreatDoorRows.lean that lists a variable, with what it lists TIED to the program's text (the seventh form; the later family's looks); each row that meets fmt, with fmt's text TOLD by the authors' own Lean function (tested against real Go, not proved from fmt's source: count such statements apart). THE CARD IS WHAT COUNTS. Prove the row's statement (the work); the ties are given (YtogphdkefnmkoaaGreatDoorTie.lean); close each card by the builder's one call (the guide's Derived/Test/ToyasCard.lean, 'card_holds'). Laid BY PROGRAM, IN A SANDBOX (cutbox-door.mjs). By AI agents, Wed Nov 11 2026. No macro, syntax, notation, axiom, sorry.
-/
import Derived.Test.YtogphdkefnmkoaaGreatDoorRows
import GoSem.ClaimSeven
namespace Go.Proofs.YtogphdkefnmkoaaGreatDoor
namespace Rows

/-- THE TIED CARD OF 'lexiconlaw15.ProtoBounds'. -/
def protoBoundsCard : Claim7 := { stood := { row := protoBoundsRow, standIns := [], harness := (true, "9f56684f28f2178c14e3ceb5f98048f79a7afaf82d07bed447dd4422bf9b2c51"), looks := true }, kinds := [], alts := [], laidByText := true, laidKinds := [.data, .data, .data, .data, .sentinel, .sentinel, .pinned], laidTests := true, laidLooks := .later }
def ProtoBoundsCardSaid : Prop := Claim7.holds Tryz.pinned (.plain (OpenSpec.ofChange protoBoundsSpec)) protoBoundsCard

/-- THE SECOND FORM's CARD OF 'lexiconlaw15.ProtoBounds'. -/
def protoBoundsUptoCard : Claim7 := { stood := { row := protoBoundsUptoRow, standIns := [], harness := (true, "9f56684f28f2178c14e3ceb5f98048f79a7afaf82d07bed447dd4422bf9b2c51"), looks := true }, kinds := [], alts := [], laidByText := true, laidKinds := [.data, .data, .data, .data, .sentinel, .sentinel, .pinned], laidTests := true, laidLooks := .later }
def ProtoBoundsUptoCardSaid : Prop := Claim7.holds Tryz.pinned (.plain (OpenSpec.upto protoBoundsSpec)) protoBoundsUptoCard
end Rows
end Go.Proofs.YtogphdkefnmkoaaGreatDoor
