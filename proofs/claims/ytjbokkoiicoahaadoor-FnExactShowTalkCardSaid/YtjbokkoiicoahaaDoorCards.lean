/-
  DERIVED. GIVEN WITH THE SEED: THE CARDS: each row of YtjbokkoiicoahaaDoorRows.lean that lists a variable, with what it lists TIED to the program's text (the seventh form; the later family's looks); each row that meets fmt, with fmt's text TOLD by the authors' own Lean function (tested against real Go, not proved from fmt's source: count such statements apart). THE CARD IS WHAT COUNTS. Prove the row's statement (the work); the ties are given (YtjbokkoiicoahaaDoorTie.lean); close each card by the builder's one call (the guide's Derived/Test/ToyasCard.lean, 'card_holds'). Laid BY PROGRAM, IN A SANDBOX (cutbox-door.mjs). By AI agents, Wed Nov 11 2026. No macro, syntax, notation, axiom, sorry.
-/
import Derived.Test.YtjbokkoiicoahaaDoorRows
import GoSem.ClaimSeven
namespace Go.Proofs.YtjbokkoiicoahaaDoor
namespace Rows

/-- THE TIED CARD OF 'laws.FnExactShowBox'. -/
def fnExactShowBoxCard : Claim7 := { stood := { row := fnExactShowBoxRow, standIns := [], harness := (true, "3b23d3a935aff9f436cc155575df253df10befa0f46d06d3373ed65ec7a7694f"), looks := false }, kinds := [], alts := [], laidByText := true, laidKinds := [.data, .data, .data], laidTests := true, laidLooks := .later }
def FnExactShowBoxCardSaid : Prop := Claim7.holds Tryd.pinned (.plain (OpenSpec.ofChange fnExactShowBoxSpec)) fnExactShowBoxCard

/-- THE TIED CARD OF 'laws.FnExactShowTalk'. -/
def fnExactShowTalkCard : Claim7 := { stood := { row := fnExactShowTalkRow, standIns := [], harness := (true, "3b23d3a935aff9f436cc155575df253df10befa0f46d06d3373ed65ec7a7694f"), looks := false }, kinds := [], alts := [], laidByText := true, laidKinds := [.data, .data, .data, .data, .pinned], laidTests := true, laidLooks := .later }
def FnExactShowTalkCardSaid : Prop := Claim7.holds Tryd.pinned (.plain (OpenSpec.ofChange fnExactShowTalkSpec)) fnExactShowTalkCard

/-- THE SECOND FORM's CARD OF 'laws.FnExactShowBox'. -/
def fnExactShowBoxUptoCard : Claim7 := { stood := { row := fnExactShowBoxUptoRow, standIns := [], harness := (true, "3b23d3a935aff9f436cc155575df253df10befa0f46d06d3373ed65ec7a7694f"), looks := false }, kinds := [], alts := [], laidByText := true, laidKinds := [.data, .data, .data], laidTests := true, laidLooks := .later }
def FnExactShowBoxUptoCardSaid : Prop := Claim7.holds Tryd.pinned (.plain (OpenSpec.upto fnExactShowBoxSpec)) fnExactShowBoxUptoCard

/-- THE SECOND FORM's CARD OF 'laws.FnExactShowTalk'. -/
def fnExactShowTalkUptoCard : Claim7 := { stood := { row := fnExactShowTalkUptoRow, standIns := [], harness := (true, "3b23d3a935aff9f436cc155575df253df10befa0f46d06d3373ed65ec7a7694f"), looks := false }, kinds := [], alts := [], laidByText := true, laidKinds := [.data, .data, .data, .data, .pinned], laidTests := true, laidLooks := .later }
def FnExactShowTalkUptoCardSaid : Prop := Claim7.holds Tryd.pinned (.plain (OpenSpec.upto fnExactShowTalkSpec)) fnExactShowTalkUptoCard
end Rows
end Go.Proofs.YtjbokkoiicoahaaDoor
