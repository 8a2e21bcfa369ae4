/-
  DERIVED. GIVEN WITH THE SEED: THE CARDS: each row of YtcjandlemjfojaaGreatDoorRows.lean that lists a variable, with what it lists TIED to the program's text (the seventh form; the later family's looks); each row that meets fmt, with fmt's text TOLD by the authors' own Lean function (tested against real Go, not proved from fmt's source: count such statements apart). THE CARD IS WHAT COUNTS. Prove the row's statement (the work); the ties are given (YtcjandlemjfojaaGreatDoorTie.lean); close each card by the builder's one call (the guide's Derived/Test/ToyasCard.lean, 'card_holds'). Laid BY PROGRAM, IN A SANDBOX (cutbox-door.mjs). By AI agents, Wed Nov 11 2026. No macro, syntax, notation, axiom, sorry.
-/
import Derived.Test.YtcjandlemjfojaaGreatDoorRows
import GoSem.ClaimSeven
namespace Go.Proofs.YtcjandlemjfojaaGreatDoor
namespace Rows

/-- THE TIED CARD OF 'laws.FnTackles'. -/
def fnTacklesCard : Claim7 := { stood := { row := fnTacklesRow, standIns := [], harness := (true, "f25cf1409d24b3d1a4d50ce1569fd6bf470f6ff8d8d853f229c113560cfd4626"), looks := false }, kinds := [], alts := [], laidByText := true, laidKinds := [.data, .data, .data, .data, .pinned], laidTests := true, laidLooks := .later }
def FnTacklesCardSaid : Prop := Claim7.holds Tryz.pinned (.plain (OpenSpec.ofChange fnTacklesSpec)) fnTacklesCard

/-- THE SECOND FORM's CARD OF 'laws.FnTackles'. -/
def fnTacklesUptoCard : Claim7 := { stood := { row := fnTacklesUptoRow, standIns := [], harness := (true, "f25cf1409d24b3d1a4d50ce1569fd6bf470f6ff8d8d853f229c113560cfd4626"), looks := false }, kinds := [], alts := [], laidByText := true, laidKinds := [.data, .data, .data, .data, .pinned], laidTests := true, laidLooks := .later }
def FnTacklesUptoCardSaid : Prop := Claim7.holds Tryz.pinned (.plain (OpenSpec.upto fnTacklesSpec)) fnTacklesUptoCard
end Rows
end Go.Proofs.YtcjandlemjfojaaGreatDoor
