/-
  DERIVED. GIVEN WITH THE SEED: THE CARDS: each row of YtacijlpnpkhjaaaDoorRows.lean that lists a variable, with what it lists TIED to the program's text (the seventh form; the later family's looks); each row that meets fmt, with fmt's text TOLD by the authors' own Lean function (tested against real Go, not proved from fmt's source: count such statements apart). THE CARD IS WHAT COUNTS. Prove the row's statement (the work); the ties are given (YtacijlpnpkhjaaaDoorTie.lean); close each card by the builder's one call (the guide's Derived/Test/ToyasCard.lean, 'card_holds'). Laid BY PROGRAM, IN A SANDBOX (cutbox-door.mjs). By AI agents, Wed Nov 11 2026. No macro, syntax, notation, axiom, sorry.
-/
import Derived.Test.YtacijlpnpkhjaaaDoorRows
import GoSem.ClaimSeven
namespace Go.Proofs.YtacijlpnpkhjaaaDoor
namespace Rows

/-- THE TIED CARD OF 'laws.FnExactBarText'. -/
def fnExactBarTextCard : Claim7 := { stood := { row := fnExactBarTextRow, standIns := [], harness := (true, "6e8f41459cfd0946684eae98b0c7ea9b99ae4c1b53b988ce0aaf9b72e959d58f"), looks := false }, kinds := [], alts := [], laidByText := true, laidKinds := [.data, .data, .data], laidTests := true, laidLooks := .later }
def FnExactBarTextCardSaid : Prop := Claim7.holds Tryd.pinned (.plain (OpenSpec.ofChange fnExactBarTextSpec)) fnExactBarTextCard

/-- THE SECOND FORM's CARD OF 'laws.FnExactBarText'. -/
def fnExactBarTextUptoCard : Claim7 := { stood := { row := fnExactBarTextUptoRow, standIns := [], harness := (true, "6e8f41459cfd0946684eae98b0c7ea9b99ae4c1b53b988ce0aaf9b72e959d58f"), looks := false }, kinds := [], alts := [], laidByText := true, laidKinds := [.data, .data, .data], laidTests := true, laidLooks := .later }
def FnExactBarTextUptoCardSaid : Prop := Claim7.holds Tryd.pinned (.plain (OpenSpec.upto fnExactBarTextSpec)) fnExactBarTextUptoCard
end Rows
end Go.Proofs.YtacijlpnpkhjaaaDoor
