/-
  DERIVED. GIVEN WITH THE SEED: THE CARDS: each row of YtmpgcmfjjjmhmaaDoorRows.lean that lists a variable, with what it lists TIED to the program's text (the seventh form; the later family's looks); each row that meets fmt, with fmt's text TOLD by the authors' own Lean function (tested against real Go, not proved from fmt's source: count such statements apart). THE CARD IS WHAT COUNTS. Prove the row's statement (the work); the ties are given (YtmpgcmfjjjmhmaaDoorTie.lean); close each card by the builder's one call (the guide's Derived/Test/ToyasCard.lean, 'card_holds'). Laid BY PROGRAM, IN A SANDBOX (cutbox-door.mjs). By AI agents, Wed Nov 11 2026. No macro, syntax, notation, axiom, sorry.
-/
import Derived.Test.YtmpgcmfjjjmhmaaDoorRows
import GoSem.ClaimSeven
namespace Go.Proofs.YtmpgcmfjjjmhmaaDoor
namespace Rows

/-- THE TIED CARD OF 'laws.FnExactWayText'. -/
def fnExactWayTextCard : Claim7 := { stood := { row := fnExactWayTextRow, standIns := [], harness := (true, "468476d486fda407e5fd987e05317f44717f43645b3d4a41ce8f198bb8ca0c5e"), looks := false }, kinds := [], alts := [], laidByText := true, laidKinds := [.data, .data, .data], laidTests := true, laidLooks := .later }
def FnExactWayTextCardSaid : Prop := Claim7.holds Tryd.pinned (.plain (OpenSpec.ofChange fnExactWayTextSpec)) fnExactWayTextCard

/-- THE TIED CARD OF 'laws.FnExactReadWay'. -/
def fnExactReadWayCard : Claim7 := { stood := { row := fnExactReadWayRow, standIns := [], harness := (true, "468476d486fda407e5fd987e05317f44717f43645b3d4a41ce8f198bb8ca0c5e"), looks := false }, kinds := [], alts := [], laidByText := true, laidKinds := [.data, .data, .data, .data, .pinned], laidTests := true, laidLooks := .later }
def FnExactReadWayCardSaid : Prop := Claim7.holds Tryd.pinned (.plain (OpenSpec.ofChange fnExactReadWaySpec)) fnExactReadWayCard

/-- THE SECOND FORM's CARD OF 'laws.FnExactWayText'. -/
def fnExactWayTextUptoCard : Claim7 := { stood := { row := fnExactWayTextUptoRow, standIns := [], harness := (true, "468476d486fda407e5fd987e05317f44717f43645b3d4a41ce8f198bb8ca0c5e"), looks := false }, kinds := [], alts := [], laidByText := true, laidKinds := [.data, .data, .data], laidTests := true, laidLooks := .later }
def FnExactWayTextUptoCardSaid : Prop := Claim7.holds Tryd.pinned (.plain (OpenSpec.upto fnExactWayTextSpec)) fnExactWayTextUptoCard

/-- THE SECOND FORM's CARD OF 'laws.FnExactReadWay'. -/
def fnExactReadWayUptoCard : Claim7 := { stood := { row := fnExactReadWayUptoRow, standIns := [], harness := (true, "468476d486fda407e5fd987e05317f44717f43645b3d4a41ce8f198bb8ca0c5e"), looks := false }, kinds := [], alts := [], laidByText := true, laidKinds := [.data, .data, .data, .data, .pinned], laidTests := true, laidLooks := .later }
def FnExactReadWayUptoCardSaid : Prop := Claim7.holds Tryd.pinned (.plain (OpenSpec.upto fnExactReadWaySpec)) fnExactReadWayUptoCard
end Rows
end Go.Proofs.YtmpgcmfjjjmhmaaDoor
