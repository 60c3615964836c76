/-
  DERIVED. GIVEN WITH THE SEED: THE CARDS: each row of YtlbpfpffifppiaaGreatDoorRows.lean that lists a variable, with what it lists TIED to the program's text (the seventh form; the later family's looks); each row that meets fmt, with fmt's text TOLD by the authors' own Lean function (tested against real Go, not proved from fmt's source: count such statements apart). THE CARD IS WHAT COUNTS. Prove the row's statement (the work); the ties are given (YtlbpfpffifppiaaGreatDoorTie.lean); close each card by the builder's one call (the guide's Derived/Test/ToyasCard.lean, 'card_holds'). Laid BY PROGRAM, IN A SANDBOX (cutbox-door.mjs). By AI agents, Wed Nov 11 2026. No macro, syntax, notation, axiom, sorry.
-/
import Derived.Test.YtlbpfpffifppiaaGreatDoorRows
import GoSem.ClaimSeven
namespace Go.Proofs.YtlbpfpffifppiaaGreatDoor
namespace Rows

/-- THE TIED CARD OF 'emendlaw18.BindingKnown'. -/
def bindingKnownCard : Claim7 := { stood := { row := bindingKnownRow, standIns := [], harness := (true, "bebf297a83ebf2d811c1693415e3e6b5a4667c6cdf245246262bccebad6b2012"), looks := true }, kinds := [], alts := [], laidByText := true, laidKinds := [.data, .data, .widerDeep, .widerDeep, .data, .data, .data, .data, .data, .data, .sentinel, .sentinel, .listed, .data, .pinned, .pinned, .pinned], laidTests := true, laidLooks := .later }
def BindingKnownCardSaid : Prop := Claim7.holds Tryz.pinned (.plain (OpenSpec.ofChange bindingKnownSpec)) bindingKnownCard

/-- THE TIED CARD OF 'emendlaw19.RenameKnown'. -/
def renameKnownCard : Claim7 := { stood := { row := renameKnownRow, standIns := [], harness := (true, "bebf297a83ebf2d811c1693415e3e6b5a4667c6cdf245246262bccebad6b2012"), looks := true }, kinds := [], alts := [], laidByText := true, laidKinds := [.data, .data, .widerDeep, .widerDeep, .data, .data, .data, .data, .data, .data, .sentinel, .sentinel, .listed, .data, .pinned, .pinned, .pinned], laidTests := true, laidLooks := .later }
def RenameKnownCardSaid : Prop := Claim7.holds Tryz.pinned (.plain (OpenSpec.ofChange renameKnownSpec)) renameKnownCard

/-- THE SECOND FORM's CARD OF 'emendlaw18.BindingKnown'. -/
def bindingKnownUptoCard : Claim7 := { stood := { row := bindingKnownUptoRow, standIns := [], harness := (true, "bebf297a83ebf2d811c1693415e3e6b5a4667c6cdf245246262bccebad6b2012"), looks := true }, kinds := [], alts := [], laidByText := true, laidKinds := [.data, .data, .widerDeep, .widerDeep, .data, .data, .data, .data, .data, .data, .sentinel, .sentinel, .listed, .data, .pinned, .pinned, .pinned], laidTests := true, laidLooks := .later }
def BindingKnownUptoCardSaid : Prop := Claim7.holds Tryz.pinned (.plain (OpenSpec.upto bindingKnownSpec)) bindingKnownUptoCard

/-- THE SECOND FORM's CARD OF 'emendlaw19.RenameKnown'. -/
def renameKnownUptoCard : Claim7 := { stood := { row := renameKnownUptoRow, standIns := [], harness := (true, "bebf297a83ebf2d811c1693415e3e6b5a4667c6cdf245246262bccebad6b2012"), looks := true }, kinds := [], alts := [], laidByText := true, laidKinds := [.data, .data, .widerDeep, .widerDeep, .data, .data, .data, .data, .data, .data, .sentinel, .sentinel, .listed, .data, .pinned, .pinned, .pinned], laidTests := true, laidLooks := .later }
def RenameKnownUptoCardSaid : Prop := Claim7.holds Tryz.pinned (.plain (OpenSpec.upto renameKnownSpec)) renameKnownUptoCard
end Rows
end Go.Proofs.YtlbpfpffifppiaaGreatDoor
