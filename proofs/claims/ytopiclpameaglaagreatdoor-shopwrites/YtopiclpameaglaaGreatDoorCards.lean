/-
  DERIVED. GIVEN WITH THE SEED: THE CARDS: each row of YtopiclpameaglaaGreatDoorRows.lean that lists a variable, with what it lists TIED to the program's text (the seventh form; the later family's looks); each row that meets fmt, with fmt's text TOLD by the authors' own Lean function (tested against real Go, not proved from fmt's source: count such statements apart). THE CARD IS WHAT COUNTS. Prove the row's statement (the work); the ties are given (YtopiclpameaglaaGreatDoorTie.lean); close each card by the builder's one call (the guide's Derived/Test/ToyasCard.lean, 'card_holds'). Laid BY PROGRAM, IN A SANDBOX (cutbox-door.mjs). By AI agents, Wed Nov 11 2026. No macro, syntax, notation, axiom, sorry.
-/
import Derived.Test.YtopiclpameaglaaGreatDoorRows
import GoSem.ClaimSeven
namespace Go.Proofs.YtopiclpameaglaaGreatDoor
namespace Rows

/-- THE TIED CARD OF 'cabinetrylaw28.ShopReads'. -/
def shopReadsCard : Claim7 := { stood := { row := shopReadsRow, standIns := [], harness := (true, "c4c820e1ec4c2c73eb09bf9cadbd69a24f2b350a66c87473702504aad8d1599a"), looks := true }, kinds := [], alts := [], laidByText := true, laidKinds := [.data, .data, .data, .data, .handle, .sentinel, .sentinel, .listed, .data, .pinned, .pinned], laidTests := true, laidLooks := .later }
def ShopReadsCardSaid : Prop := Claim7.holds Tryz.pinned (.plain (OpenSpec.ofChange shopReadsSpec)) shopReadsCard

/-- THE TIED CARD OF 'cabinetrylaw28.ShopMerges'. -/
def shopMergesCard : Claim7 := { stood := { row := shopMergesRow, standIns := [], harness := (true, "c4c820e1ec4c2c73eb09bf9cadbd69a24f2b350a66c87473702504aad8d1599a"), looks := true }, kinds := [], alts := [], laidByText := true, laidKinds := [.data, .data, .data, .data, .handle, .sentinel, .sentinel, .listed, .data, .pinned, .pinned], laidTests := true, laidLooks := .later }
def ShopMergesCardSaid : Prop := Claim7.holds Tryz.pinned (.plain (OpenSpec.ofChange shopMergesSpec)) shopMergesCard

/-- THE TIED CARD OF 'cabinetrylaw28.ShopWrites'. -/
def shopWritesCard : Claim7 := { stood := { row := shopWritesRow, standIns := [], harness := (true, "c4c820e1ec4c2c73eb09bf9cadbd69a24f2b350a66c87473702504aad8d1599a"), looks := true }, kinds := [], alts := [], laidByText := true, laidKinds := [.data, .data, .data, .data, .handle, .sentinel, .sentinel, .listed, .data, .pinned, .pinned], laidTests := true, laidLooks := .later }
def ShopWritesCardSaid : Prop := Claim7.holds Tryz.pinned (.plain (OpenSpec.ofChange shopWritesSpec)) shopWritesCard

/-- THE SECOND FORM's CARD OF 'cabinetrylaw28.ShopReads'. -/
def shopReadsUptoCard : Claim7 := { stood := { row := shopReadsUptoRow, standIns := [], harness := (true, "c4c820e1ec4c2c73eb09bf9cadbd69a24f2b350a66c87473702504aad8d1599a"), looks := true }, kinds := [], alts := [], laidByText := true, laidKinds := [.data, .data, .data, .data, .handle, .sentinel, .sentinel, .listed, .data, .pinned, .pinned], laidTests := true, laidLooks := .later }
def ShopReadsUptoCardSaid : Prop := Claim7.holds Tryz.pinned (.plain (OpenSpec.upto shopReadsSpec)) shopReadsUptoCard

/-- THE SECOND FORM's CARD OF 'cabinetrylaw28.ShopMerges'. -/
def shopMergesUptoCard : Claim7 := { stood := { row := shopMergesUptoRow, standIns := [], harness := (true, "c4c820e1ec4c2c73eb09bf9cadbd69a24f2b350a66c87473702504aad8d1599a"), looks := true }, kinds := [], alts := [], laidByText := true, laidKinds := [.data, .data, .data, .data, .handle, .sentinel, .sentinel, .listed, .data, .pinned, .pinned], laidTests := true, laidLooks := .later }
def ShopMergesUptoCardSaid : Prop := Claim7.holds Tryz.pinned (.plain (OpenSpec.upto shopMergesSpec)) shopMergesUptoCard

/-- THE SECOND FORM's CARD OF 'cabinetrylaw28.ShopWrites'. -/
def shopWritesUptoCard : Claim7 := { stood := { row := shopWritesUptoRow, standIns := [], harness := (true, "c4c820e1ec4c2c73eb09bf9cadbd69a24f2b350a66c87473702504aad8d1599a"), looks := true }, kinds := [], alts := [], laidByText := true, laidKinds := [.data, .data, .data, .data, .handle, .sentinel, .sentinel, .listed, .data, .pinned, .pinned], laidTests := true, laidLooks := .later }
def ShopWritesUptoCardSaid : Prop := Claim7.holds Tryz.pinned (.plain (OpenSpec.upto shopWritesSpec)) shopWritesUptoCard
end Rows
end Go.Proofs.YtopiclpameaglaaGreatDoor
