/-
  DERIVED. GIVEN WITH THE SEED: THE CARDS: each row of YtdgoeblpcnjlbaaGreatDoorRows.lean that lists a variable, with what it lists TIED to the program's text (the seventh form; the later family's looks); each row that meets fmt, with fmt's text TOLD by the authors' own Lean function (tested against real Go, not proved from fmt's source: count such statements apart). THE CARD IS WHAT COUNTS. Prove the row's statement (the work); the ties are given (YtdgoeblpcnjlbaaGreatDoorTie.lean); close each card by the builder's one call (the guide's Derived/Test/ToyasCard.lean, 'card_holds'). Laid BY PROGRAM, IN A SANDBOX (cutbox-door.mjs). By AI agents, Wed Nov 11 2026. No macro, syntax, notation, axiom, sorry.
-/
import Derived.Test.YtdgoeblpcnjlbaaGreatDoorRows
import GoSem.ClaimSeven
namespace Go.Proofs.YtdgoeblpcnjlbaaGreatDoor
namespace Rows

/-- THE TIED CARD OF 'pblaw2.WaysFollowed'. -/
def waysFollowedCard : Claim7 := { stood := { row := waysFollowedRow, standIns := [], harness := (true, "76e463bd49501c2157a06beb99479dd6239a1dca55301da4679c60bbf32061a4"), looks := false }, kinds := [], alts := [], laidByText := true, laidKinds := [.data, .pinned], laidTests := true, laidLooks := .later }
def WaysFollowedCardSaid : Prop := Claim7.holds Tryz.pinned (.plain (OpenSpec.ofChange waysFollowedSpec)) waysFollowedCard

/-- THE TIED CARD OF 'pblaw2.PlaysChanged'. -/
def playsChangedCard : Claim7 := { stood := { row := playsChangedRow, standIns := [], harness := (true, "76e463bd49501c2157a06beb99479dd6239a1dca55301da4679c60bbf32061a4"), looks := false }, kinds := [], alts := [], laidByText := true, laidKinds := [.data, .pinned], laidTests := true, laidLooks := .later }
def PlaysChangedCardSaid : Prop := Claim7.holds Tryz.pinned (.plain (OpenSpec.ofChange playsChangedSpec)) playsChangedCard

/-- THE TIED CARD OF 'pblaw2.ReadsFound'. -/
def readsFoundCard : Claim7 := { stood := { row := readsFoundRow, standIns := [], harness := (true, "76e463bd49501c2157a06beb99479dd6239a1dca55301da4679c60bbf32061a4"), looks := false }, kinds := [], alts := [], laidByText := true, laidKinds := [.data, .pinned], laidTests := true, laidLooks := .later }
def ReadsFoundCardSaid : Prop := Claim7.holds Tryz.pinned (.plain (OpenSpec.ofChange readsFoundSpec)) readsFoundCard

/-- THE SECOND FORM's CARD OF 'pblaw2.WaysFollowed'. -/
def waysFollowedUptoCard : Claim7 := { stood := { row := waysFollowedUptoRow, standIns := [], harness := (true, "76e463bd49501c2157a06beb99479dd6239a1dca55301da4679c60bbf32061a4"), looks := false }, kinds := [], alts := [], laidByText := true, laidKinds := [.data, .pinned], laidTests := true, laidLooks := .later }
def WaysFollowedUptoCardSaid : Prop := Claim7.holds Tryz.pinned (.plain (OpenSpec.upto waysFollowedSpec)) waysFollowedUptoCard

/-- THE SECOND FORM's CARD OF 'pblaw2.PlaysChanged'. -/
def playsChangedUptoCard : Claim7 := { stood := { row := playsChangedUptoRow, standIns := [], harness := (true, "76e463bd49501c2157a06beb99479dd6239a1dca55301da4679c60bbf32061a4"), looks := false }, kinds := [], alts := [], laidByText := true, laidKinds := [.data, .pinned], laidTests := true, laidLooks := .later }
def PlaysChangedUptoCardSaid : Prop := Claim7.holds Tryz.pinned (.plain (OpenSpec.upto playsChangedSpec)) playsChangedUptoCard

/-- THE SECOND FORM's CARD OF 'pblaw2.ReadsFound'. -/
def readsFoundUptoCard : Claim7 := { stood := { row := readsFoundUptoRow, standIns := [], harness := (true, "76e463bd49501c2157a06beb99479dd6239a1dca55301da4679c60bbf32061a4"), looks := false }, kinds := [], alts := [], laidByText := true, laidKinds := [.data, .pinned], laidTests := true, laidLooks := .later }
def ReadsFoundUptoCardSaid : Prop := Claim7.holds Tryz.pinned (.plain (OpenSpec.upto readsFoundSpec)) readsFoundUptoCard
end Rows
end Go.Proofs.YtdgoeblpcnjlbaaGreatDoor
