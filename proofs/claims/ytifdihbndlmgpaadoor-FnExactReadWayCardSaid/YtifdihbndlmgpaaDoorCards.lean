/-
  DERIVED. GIVEN WITH THE SEED: THE CARDS: each row of YtifdihbndlmgpaaDoorRows.lean that lists a variable, with what it lists TIED to the program's text (the seventh form; the later family's looks); each row that meets fmt, with fmt's text TOLD by the authors' own Lean function (tested against real Go, not proved from fmt's source: count such statements apart). THE CARD IS WHAT COUNTS. Prove the row's statement (the work); the ties are given (YtifdihbndlmgpaaDoorTie.lean); close each card by the builder's one call (the guide's Derived/Test/ToyasCard.lean, 'card_holds'). Laid BY PROGRAM, IN A SANDBOX (cutbox-door.mjs). By AI agents, Wed Nov 11 2026. No macro, syntax, notation, axiom, sorry.
-/
import Derived.Test.YtifdihbndlmgpaaDoorRows
import GoSem.ClaimSeven
namespace Go.Proofs.YtifdihbndlmgpaaDoor
namespace Rows

/-- THE TIED CARD OF 'laws.FnExactReadWay'. -/
def fnExactReadWayCard : Claim7 := { stood := { row := fnExactReadWayRow, standIns := [], harness := (true, "7f4445ee6f7e38b0429c1c2a39166c58ebb563e534b0f12aacb27242f051cafa"), looks := false }, kinds := [], alts := [], laidByText := true, laidKinds := [.data, .data, .data, .data, .pinned], laidTests := true, laidLooks := .later }
def FnExactReadWayCardSaid : Prop := Claim7.holds Tryd.pinned (.plain (OpenSpec.ofChange fnExactReadWaySpec)) fnExactReadWayCard

/-- THE SECOND FORM's CARD OF 'laws.FnExactReadWay'. -/
def fnExactReadWayUptoCard : Claim7 := { stood := { row := fnExactReadWayUptoRow, standIns := [], harness := (true, "7f4445ee6f7e38b0429c1c2a39166c58ebb563e534b0f12aacb27242f051cafa"), looks := false }, kinds := [], alts := [], laidByText := true, laidKinds := [.data, .data, .data, .data, .pinned], laidTests := true, laidLooks := .later }
def FnExactReadWayUptoCardSaid : Prop := Claim7.holds Tryd.pinned (.plain (OpenSpec.upto fnExactReadWaySpec)) fnExactReadWayUptoCard
end Rows
end Go.Proofs.YtifdihbndlmgpaaDoor
