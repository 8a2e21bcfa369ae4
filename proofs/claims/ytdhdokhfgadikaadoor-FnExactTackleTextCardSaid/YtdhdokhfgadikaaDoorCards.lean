/-
  DERIVED. GIVEN WITH THE SEED: THE CARDS: each row of YtdhdokhfgadikaaDoorRows.lean that lists a variable, with what it lists TIED to the program's text (the seventh form; the later family's looks); each row that meets fmt, with fmt's text TOLD by the authors' own Lean function (tested against real Go, not proved from fmt's source: count such statements apart). THE CARD IS WHAT COUNTS. Prove the row's statement (the work); the ties are given (YtdhdokhfgadikaaDoorTie.lean); close each card by the builder's one call (the guide's Derived/Test/ToyasCard.lean, 'card_holds'). Laid BY PROGRAM, IN A SANDBOX (cutbox-door.mjs). By AI agents, Wed Nov 11 2026. No macro, syntax, notation, axiom, sorry.
-/
import Derived.Test.YtdhdokhfgadikaaDoorRows
import GoSem.ClaimSeven
namespace Go.Proofs.YtdhdokhfgadikaaDoor
namespace Rows

/-- THE TIED CARD OF 'laws.FnExactTackleText'. -/
def fnExactTackleTextCard : Claim7 := { stood := { row := fnExactTackleTextRow, standIns := [], harness := (true, "781ab129425becf4e69630e6e6a425f3439f2f37d023e6fd22a70705c55ab436"), looks := false }, kinds := [], alts := [], laidByText := true, laidKinds := [.data, .data, .data], laidTests := true, laidLooks := .later }
def FnExactTackleTextCardSaid : Prop := Claim7.holds Tryd.pinned (.plain (OpenSpec.ofChange fnExactTackleTextSpec)) fnExactTackleTextCard

/-- THE SECOND FORM's CARD OF 'laws.FnExactTackleText'. -/
def fnExactTackleTextUptoCard : Claim7 := { stood := { row := fnExactTackleTextUptoRow, standIns := [], harness := (true, "781ab129425becf4e69630e6e6a425f3439f2f37d023e6fd22a70705c55ab436"), looks := false }, kinds := [], alts := [], laidByText := true, laidKinds := [.data, .data, .data], laidTests := true, laidLooks := .later }
def FnExactTackleTextUptoCardSaid : Prop := Claim7.holds Tryd.pinned (.plain (OpenSpec.upto fnExactTackleTextSpec)) fnExactTackleTextUptoCard
end Rows
end Go.Proofs.YtdhdokhfgadikaaDoor
