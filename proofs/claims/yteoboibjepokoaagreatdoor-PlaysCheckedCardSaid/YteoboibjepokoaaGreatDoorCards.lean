/-
  DERIVED. GIVEN WITH THE SEED: THE CARDS: each row of YteoboibjepokoaaGreatDoorRows.lean that lists a variable, with what it lists TIED to the program's text (the seventh form; the later family's looks); each row that meets fmt, with fmt's text TOLD by the authors' own Lean function (tested against real Go, not proved from fmt's source: count such statements apart). THE CARD IS WHAT COUNTS. Prove the row's statement (the work); the ties are given (YteoboibjepokoaaGreatDoorTie.lean); close each card by the builder's one call (the guide's Derived/Test/ToyasCard.lean, 'card_holds'). Laid BY PROGRAM, IN A SANDBOX (cutbox-door.mjs). By AI agents, Wed Nov 11 2026. No macro, syntax, notation, axiom, sorry.
-/
import Derived.Test.YteoboibjepokoaaGreatDoorRows
import GoSem.ClaimSeven
namespace Go.Proofs.YteoboibjepokoaaGreatDoor
namespace Rows

/-- THE TIED CARD OF 'pblaw2.PlaysChecked'. -/
def playsCheckedCard : Claim7 := { stood := { row := playsCheckedRow, standIns := [], harness := (true, "53f21bb61583b19c4d4fc3a9b8c426fc43541c2d2606f9b3ceded3a7c333b296"), looks := false }, kinds := [], alts := [], laidByText := true, laidKinds := [.data, .pinned], laidTests := true, laidLooks := .later }
def PlaysCheckedCardSaid : Prop := Claim7.holds Tryz.pinned (.plain (OpenSpec.ofChange playsCheckedSpec)) playsCheckedCard

/-- THE SECOND FORM's CARD OF 'pblaw2.PlaysChecked'. -/
def playsCheckedUptoCard : Claim7 := { stood := { row := playsCheckedUptoRow, standIns := [], harness := (true, "53f21bb61583b19c4d4fc3a9b8c426fc43541c2d2606f9b3ceded3a7c333b296"), looks := false }, kinds := [], alts := [], laidByText := true, laidKinds := [.data, .pinned], laidTests := true, laidLooks := .later }
def PlaysCheckedUptoCardSaid : Prop := Claim7.holds Tryz.pinned (.plain (OpenSpec.upto playsCheckedSpec)) playsCheckedUptoCard
end Rows
end Go.Proofs.YteoboibjepokoaaGreatDoor
