/-
  DERIVED. GIVEN WITH THE SEED: THE CARDS: each row of YtjbokkoiicoahaaGreatDoorRows.lean that lists a variable, with what it lists TIED to the program's text (the seventh form; the later family's looks); each row that meets fmt, with fmt's text TOLD by the authors' own Lean function (tested against real Go, not proved from fmt's source: count such statements apart). THE CARD IS WHAT COUNTS. Prove the row's statement (the work); the ties are given (YtjbokkoiicoahaaGreatDoorTie.lean); close each card by the builder's one call (the guide's Derived/Test/ToyasCard.lean, 'card_holds'). Laid BY PROGRAM, IN A SANDBOX (cutbox-door.mjs). By AI agents, Wed Nov 11 2026. No macro, syntax, notation, axiom, sorry.
-/
import Derived.Test.YtjbokkoiicoahaaGreatDoorRows
import GoSem.ClaimSeven
namespace Go.Proofs.YtjbokkoiicoahaaGreatDoor
namespace Rows

/-- THE TIED CARD OF 'laws.FnExactShowStore'. -/
def fnExactShowStoreCard : Claim7 := { stood := { row := fnExactShowStoreRow, standIns := [], harness := (true, "809c34e906ed45fbfca6db051779c09e85ed12b289004cc495e88132853f4c87"), looks := false }, kinds := [], alts := [], laidByText := true, laidKinds := [.data, .data, .data], laidTests := true, laidLooks := .later }
def FnExactShowStoreCardSaid : Prop := Claim7.holds Tryz.pinned (.plain (OpenSpec.ofChange fnExactShowStoreSpec)) fnExactShowStoreCard

/-- THE SECOND FORM's CARD OF 'laws.FnExactShowStore'. -/
def fnExactShowStoreUptoCard : Claim7 := { stood := { row := fnExactShowStoreUptoRow, standIns := [], harness := (true, "809c34e906ed45fbfca6db051779c09e85ed12b289004cc495e88132853f4c87"), looks := false }, kinds := [], alts := [], laidByText := true, laidKinds := [.data, .data, .data], laidTests := true, laidLooks := .later }
def FnExactShowStoreUptoCardSaid : Prop := Claim7.holds Tryz.pinned (.plain (OpenSpec.upto fnExactShowStoreSpec)) fnExactShowStoreUptoCard
end Rows
end Go.Proofs.YtjbokkoiicoahaaGreatDoor
