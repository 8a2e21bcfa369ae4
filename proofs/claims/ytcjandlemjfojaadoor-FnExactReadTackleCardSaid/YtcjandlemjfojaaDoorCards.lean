/-
  DERIVED. GIVEN WITH THE SEED: THE CARDS: each row of YtcjandlemjfojaaDoorRows.lean that lists a variable, with what it lists TIED to the program's text (the seventh form; the later family's looks); each row that meets fmt, with fmt's text TOLD by the authors' own Lean function (tested against real Go, not proved from fmt's source: count such statements apart). THE CARD IS WHAT COUNTS. Prove the row's statement (the work); the ties are given (YtcjandlemjfojaaDoorTie.lean); close each card by the builder's one call (the guide's Derived/Test/ToyasCard.lean, 'card_holds'). Laid BY PROGRAM, IN A SANDBOX (cutbox-door.mjs). By AI agents, Wed Nov 11 2026. No macro, syntax, notation, axiom, sorry.
-/
import Derived.Test.YtcjandlemjfojaaDoorRows
import GoSem.ClaimSeven
namespace Go.Proofs.YtcjandlemjfojaaDoor
namespace Rows

/-- THE TIED CARD OF 'laws.FnExactReadTackle'. -/
def fnExactReadTackleCard : Claim7 := { stood := { row := fnExactReadTackleRow, standIns := [], harness := (true, "08147fef1dc8a7adae5dbaab469552b793516a740c96817bf5fcd8f1b59f7848"), looks := false }, kinds := [], alts := [], laidByText := true, laidKinds := [.data, .data, .data, .data, .pinned], laidTests := true, laidLooks := .later }
def FnExactReadTackleCardSaid : Prop := Claim7.holds Tryd.pinned (.plain (OpenSpec.ofChange fnExactReadTackleSpec)) fnExactReadTackleCard

/-- THE SECOND FORM's CARD OF 'laws.FnExactReadTackle'. -/
def fnExactReadTackleUptoCard : Claim7 := { stood := { row := fnExactReadTackleUptoRow, standIns := [], harness := (true, "08147fef1dc8a7adae5dbaab469552b793516a740c96817bf5fcd8f1b59f7848"), looks := false }, kinds := [], alts := [], laidByText := true, laidKinds := [.data, .data, .data, .data, .pinned], laidTests := true, laidLooks := .later }
def FnExactReadTackleUptoCardSaid : Prop := Claim7.holds Tryd.pinned (.plain (OpenSpec.upto fnExactReadTackleSpec)) fnExactReadTackleUptoCard
end Rows
end Go.Proofs.YtcjandlemjfojaaDoor
