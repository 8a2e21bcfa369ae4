/-
  No cell of these rows narrows 'for every input' (looked for: loops, veiled, ifaces, maps, wideKeys, modest, calm, conditions, laid).
  DERIVED. THE GIVEN ROWS OF THIS SEAT. 12 by the template 'for every input the law returns true; each argument reads behind the call as it read before'; 0 by the template 'total and deterministic' (their statements: YtbfgdnogblagaaaTotals.lean).
  GIVEN WITH THE SEED: the statements are not yours to turn. If you find one false, say at which input.
  Laid BY PROGRAM, IN A SANDBOX (cutbox-rows.mjs): the forced cells as the released guide's own fill.sh prints them over the translation c23a6c01f063c0d3… (all of the seat's roots in one cut). By AI agents, Wed Nov 11 2026. No macro, syntax, notation, axiom, sorry.
-/
import Derived.Test.YtbfgdnogblagaaaChecked
import GoSem.Claim
import GoSem.ClaimJoined
import GoSem.ClaimMapViews
import Derived.JoinedTies
import Derived.KernelRfl
namespace Go.Proofs.Ytbfgdnogblagaaa
/- THE CELL 'sum', in the pinned program and in every row, IS THE sha256 OF THE DUMP (.gsa) THAT YtbfgdnogblagaaaProg.lean LOADS. Nothing in Lean hashes anything: it is a label: what it is worth is what the hold of that sum in a sandbox is worth. -/
noncomputable def Try.pinned : Pinned := { name := "ytbfgdnogblagaaa", sum := "c23a6c01f063c0d30c8e6c940aae21350d7eaaaebda956ff0f2f5464e8c9c1a6", checked := Try.checked }
namespace Rows
def none {H : Type} : Left H := { results := [], args := [] }

/-- 'laws.FnExactBeaufortOf': WHATEVER THE INPUT: true; the input reads as it did. -/
def fnExactBeaufortOfSpec : ChangeSpec := { name := "fnExactBeaufortOf", fn := fun _ => fun
  | [d] => { results := [.lit (.bool true)], args := [d] }
  | _ => none }
def fnExactBeaufortOfRow : OpenClaim := { program := "ytbfgdnogblagaaa", sum := "c23a6c01f063c0d30c8e6c940aae21350d7eaaaebda956ff0f2f5464e8c9c1a6", func := "loop.example/g01044/laws.FnExactBeaufortOf", spec := "fnExactBeaufortOf", apart := false }
def FnExactBeaufortOfSaid : Prop := fnExactBeaufortOfRow.holds Try.pinned (OpenSpec.ofChange fnExactBeaufortOfSpec)

/-- ITS FALSE NEIGHBOUR: 'it returns false'. Refute it at one input. -/
def fnExactBeaufortOfWrong : ChangeSpec := { name := "fnExactBeaufortOf", fn := fun _ => fun
  | [d] => { results := [.lit (.bool false)], args := [d] }
  | _ => none }
def FnExactBeaufortOfWrongFalsely : Prop := fnExactBeaufortOfRow.holds Try.pinned (OpenSpec.ofChange fnExactBeaufortOfWrong)

/-- 'laws.FnExactSeizingLength': WHATEVER THE INPUT: true; the input reads as it did. -/
def fnExactSeizingLengthSpec : ChangeSpec := { name := "fnExactSeizingLength", fn := fun _ => fun
  | [d1, d2, d3] => { results := [.lit (.bool true)], args := [d1, d2, d3] }
  | _ => none }
def fnExactSeizingLengthRow : OpenClaim := { program := "ytbfgdnogblagaaa", sum := "c23a6c01f063c0d30c8e6c940aae21350d7eaaaebda956ff0f2f5464e8c9c1a6", func := "loop.example/g01044/laws.FnExactSeizingLength", spec := "fnExactSeizingLength", apart := false }
def FnExactSeizingLengthSaid : Prop := fnExactSeizingLengthRow.holds Try.pinned (OpenSpec.ofChange fnExactSeizingLengthSpec)

/-- ITS FALSE NEIGHBOUR: 'it returns false'. Refute it at one input. -/
def fnExactSeizingLengthWrong : ChangeSpec := { name := "fnExactSeizingLength", fn := fun _ => fun
  | [d1, d2, d3] => { results := [.lit (.bool false)], args := [d1, d2, d3] }
  | _ => none }
def FnExactSeizingLengthWrongFalsely : Prop := fnExactSeizingLengthRow.holds Try.pinned (OpenSpec.ofChange fnExactSeizingLengthWrong)

/-- 'laws.FnExactValidCoils': WHATEVER THE INPUT: true; the input reads as it did. -/
def fnExactValidCoilsSpec : ChangeSpec := { name := "fnExactValidCoils", fn := fun _ => fun
  | [d1, d2] => { results := [.lit (.bool true)], args := [d1, d2] }
  | _ => none }
def fnExactValidCoilsRow : OpenClaim := { program := "ytbfgdnogblagaaa", sum := "c23a6c01f063c0d30c8e6c940aae21350d7eaaaebda956ff0f2f5464e8c9c1a6", func := "loop.example/g01044/laws.FnExactValidCoils", spec := "fnExactValidCoils", apart := false }
def FnExactValidCoilsSaid : Prop := fnExactValidCoilsRow.holds Try.pinned (OpenSpec.ofChange fnExactValidCoilsSpec)

/-- ITS FALSE NEIGHBOUR: 'it returns false'. Refute it at one input. -/
def fnExactValidCoilsWrong : ChangeSpec := { name := "fnExactValidCoils", fn := fun _ => fun
  | [d1, d2] => { results := [.lit (.bool false)], args := [d1, d2] }
  | _ => none }
def FnExactValidCoilsWrongFalsely : Prop := fnExactValidCoilsRow.holds Try.pinned (OpenSpec.ofChange fnExactValidCoilsWrong)

/-- 'laws.FnExactLullsOf': WHATEVER THE INPUT: true; the input reads as it did. -/
def fnExactLullsOfSpec : ChangeSpec := { name := "fnExactLullsOf", fn := fun _ => fun
  | [d1, d2] => { results := [.lit (.bool true)], args := [d1, d2] }
  | _ => none }
def fnExactLullsOfRow : OpenClaim := { program := "ytbfgdnogblagaaa", sum := "c23a6c01f063c0d30c8e6c940aae21350d7eaaaebda956ff0f2f5464e8c9c1a6", func := "loop.example/g01044/laws.FnExactLullsOf", spec := "fnExactLullsOf", apart := false }
def FnExactLullsOfSaid : Prop := fnExactLullsOfRow.holds Try.pinned (OpenSpec.ofChange fnExactLullsOfSpec)

/-- ITS FALSE NEIGHBOUR: 'it returns false'. Refute it at one input. -/
def fnExactLullsOfWrong : ChangeSpec := { name := "fnExactLullsOf", fn := fun _ => fun
  | [d1, d2] => { results := [.lit (.bool false)], args := [d1, d2] }
  | _ => none }
def FnExactLullsOfWrongFalsely : Prop := fnExactLullsOfRow.holds Try.pinned (OpenSpec.ofChange fnExactLullsOfWrong)

/-- 'laws.FnExactSplicedPieces': WHATEVER THE INPUT: true; the input reads as it did. -/
def fnExactSplicedPiecesSpec : ChangeSpec := { name := "fnExactSplicedPieces", fn := fun _ => fun
  | [d1, d2] => { results := [.lit (.bool true)], args := [d1, d2] }
  | _ => none }
def fnExactSplicedPiecesRow : OpenClaim := { program := "ytbfgdnogblagaaa", sum := "c23a6c01f063c0d30c8e6c940aae21350d7eaaaebda956ff0f2f5464e8c9c1a6", func := "loop.example/g01044/laws.FnExactSplicedPieces", spec := "fnExactSplicedPieces", apart := false }
def FnExactSplicedPiecesSaid : Prop := fnExactSplicedPiecesRow.holds Try.pinned (OpenSpec.ofChange fnExactSplicedPiecesSpec)

/-- ITS FALSE NEIGHBOUR: 'it returns false'. Refute it at one input. -/
def fnExactSplicedPiecesWrong : ChangeSpec := { name := "fnExactSplicedPieces", fn := fun _ => fun
  | [d1, d2] => { results := [.lit (.bool false)], args := [d1, d2] }
  | _ => none }
def FnExactSplicedPiecesWrongFalsely : Prop := fnExactSplicedPiecesRow.holds Try.pinned (OpenSpec.ofChange fnExactSplicedPiecesWrong)

/-- 'laws.FnSplicing': WHATEVER THE INPUT: true; the input reads as it did. -/
def fnSplicingSpec : ChangeSpec := { name := "fnSplicing", fn := fun _ => fun
  | [d1, d2] => { results := [.lit (.bool true)], args := [d1, d2] }
  | _ => none }
def fnSplicingRow : OpenClaim := { program := "ytbfgdnogblagaaa", sum := "c23a6c01f063c0d30c8e6c940aae21350d7eaaaebda956ff0f2f5464e8c9c1a6", func := "loop.example/g01044/laws.FnSplicing", spec := "fnSplicing", apart := false }
def FnSplicingSaid : Prop := fnSplicingRow.holds Try.pinned (OpenSpec.ofChange fnSplicingSpec)

/-- ITS FALSE NEIGHBOUR: 'it returns false'. Refute it at one input. -/
def fnSplicingWrong : ChangeSpec := { name := "fnSplicing", fn := fun _ => fun
  | [d1, d2] => { results := [.lit (.bool false)], args := [d1, d2] }
  | _ => none }
def FnSplicingWrongFalsely : Prop := fnSplicingRow.holds Try.pinned (OpenSpec.ofChange fnSplicingWrong)

/-- 'laws.FnExactCutFault': WHATEVER THE INPUT: true; the input reads as it did. -/
def fnExactCutFaultSpec : ChangeSpec := { name := "fnExactCutFault", fn := fun _ => fun
  | [d1, d2, d3] => { results := [.lit (.bool true)], args := [d1, d2, d3] }
  | _ => none }
def fnExactCutFaultRow : OpenClaim := { program := "ytbfgdnogblagaaa", sum := "c23a6c01f063c0d30c8e6c940aae21350d7eaaaebda956ff0f2f5464e8c9c1a6", func := "loop.example/g01044/laws.FnExactCutFault", spec := "fnExactCutFault", apart := false }
def FnExactCutFaultSaid : Prop := fnExactCutFaultRow.holds Try.pinned (OpenSpec.ofChange fnExactCutFaultSpec)

/-- ITS FALSE NEIGHBOUR: 'it returns false'. Refute it at one input. -/
def fnExactCutFaultWrong : ChangeSpec := { name := "fnExactCutFault", fn := fun _ => fun
  | [d1, d2, d3] => { results := [.lit (.bool false)], args := [d1, d2, d3] }
  | _ => none }
def FnExactCutFaultWrongFalsely : Prop := fnExactCutFaultRow.holds Try.pinned (OpenSpec.ofChange fnExactCutFaultWrong)

/-- 'laws.FnExactRestsAfter': WHATEVER THE INPUT: true; the input reads as it did. -/
def fnExactRestsAfterSpec : ChangeSpec := { name := "fnExactRestsAfter", fn := fun _ => fun
  | [d1, d2, d3] => { results := [.lit (.bool true)], args := [d1, d2, d3] }
  | _ => none }
def fnExactRestsAfterRow : OpenClaim := { program := "ytbfgdnogblagaaa", sum := "c23a6c01f063c0d30c8e6c940aae21350d7eaaaebda956ff0f2f5464e8c9c1a6", func := "loop.example/g01044/laws.FnExactRestsAfter", spec := "fnExactRestsAfter", apart := false }
def FnExactRestsAfterSaid : Prop := fnExactRestsAfterRow.holds Try.pinned (OpenSpec.ofChange fnExactRestsAfterSpec)

/-- ITS FALSE NEIGHBOUR: 'it returns false'. Refute it at one input. -/
def fnExactRestsAfterWrong : ChangeSpec := { name := "fnExactRestsAfter", fn := fun _ => fun
  | [d1, d2, d3] => { results := [.lit (.bool false)], args := [d1, d2, d3] }
  | _ => none }
def FnExactRestsAfterWrongFalsely : Prop := fnExactRestsAfterRow.holds Try.pinned (OpenSpec.ofChange fnExactRestsAfterWrong)

/-- 'laws.FnExactFirstCut': WHATEVER THE INPUT: true; the input reads as it did. -/
def fnExactFirstCutSpec : ChangeSpec := { name := "fnExactFirstCut", fn := fun _ => fun
  | [d1, d2] => { results := [.lit (.bool true)], args := [d1, d2] }
  | _ => none }
def fnExactFirstCutRow : OpenClaim := { program := "ytbfgdnogblagaaa", sum := "c23a6c01f063c0d30c8e6c940aae21350d7eaaaebda956ff0f2f5464e8c9c1a6", func := "loop.example/g01044/laws.FnExactFirstCut", spec := "fnExactFirstCut", unfollowed := true, recurses := true, apart := false }
def FnExactFirstCutSaid : Prop := fnExactFirstCutRow.holds Try.pinned (OpenSpec.ofChange fnExactFirstCutSpec)

/-- ITS FALSE NEIGHBOUR: 'it returns false'. Refute it at one input. -/
def fnExactFirstCutWrong : ChangeSpec := { name := "fnExactFirstCut", fn := fun _ => fun
  | [d1, d2] => { results := [.lit (.bool false)], args := [d1, d2] }
  | _ => none }
def FnExactFirstCutWrongFalsely : Prop := fnExactFirstCutRow.holds Try.pinned (OpenSpec.ofChange fnExactFirstCutWrong)

/-- 'laws.FnExactTightCut': WHATEVER THE INPUT: true; the input reads as it did. -/
def fnExactTightCutSpec : ChangeSpec := { name := "fnExactTightCut", fn := fun _ => fun
  | [d1, d2] => { results := [.lit (.bool true)], args := [d1, d2] }
  | _ => none }
def fnExactTightCutRow : OpenClaim := { program := "ytbfgdnogblagaaa", sum := "c23a6c01f063c0d30c8e6c940aae21350d7eaaaebda956ff0f2f5464e8c9c1a6", func := "loop.example/g01044/laws.FnExactTightCut", spec := "fnExactTightCut", unfollowed := true, recurses := true, apart := false }
def FnExactTightCutSaid : Prop := fnExactTightCutRow.holds Try.pinned (OpenSpec.ofChange fnExactTightCutSpec)

/-- ITS FALSE NEIGHBOUR: 'it returns false'. Refute it at one input. -/
def fnExactTightCutWrong : ChangeSpec := { name := "fnExactTightCut", fn := fun _ => fun
  | [d1, d2] => { results := [.lit (.bool false)], args := [d1, d2] }
  | _ => none }
def FnExactTightCutWrongFalsely : Prop := fnExactTightCutRow.holds Try.pinned (OpenSpec.ofChange fnExactTightCutWrong)

/-- 'laws.FnExactLongestRest': WHATEVER THE INPUT: true; the input reads as it did. -/
def fnExactLongestRestSpec : ChangeSpec := { name := "fnExactLongestRest", fn := fun _ => fun
  | [d1, d2] => { results := [.lit (.bool true)], args := [d1, d2] }
  | _ => none }
def fnExactLongestRestRow : OpenClaim := { program := "ytbfgdnogblagaaa", sum := "c23a6c01f063c0d30c8e6c940aae21350d7eaaaebda956ff0f2f5464e8c9c1a6", func := "loop.example/g01044/laws.FnExactLongestRest", spec := "fnExactLongestRest", unfollowed := true, recurses := true, apart := false }
def FnExactLongestRestSaid : Prop := fnExactLongestRestRow.holds Try.pinned (OpenSpec.ofChange fnExactLongestRestSpec)

/-- ITS FALSE NEIGHBOUR: 'it returns false'. Refute it at one input. -/
def fnExactLongestRestWrong : ChangeSpec := { name := "fnExactLongestRest", fn := fun _ => fun
  | [d1, d2] => { results := [.lit (.bool false)], args := [d1, d2] }
  | _ => none }
def FnExactLongestRestWrongFalsely : Prop := fnExactLongestRestRow.holds Try.pinned (OpenSpec.ofChange fnExactLongestRestWrong)

/-- 'laws.FnExactBestCut': WHATEVER THE INPUT: true; the input reads as it did. -/
def fnExactBestCutSpec : ChangeSpec := { name := "fnExactBestCut", fn := fun _ => fun
  | [d1, d2] => { results := [.lit (.bool true)], args := [d1, d2] }
  | _ => none }
def fnExactBestCutRow : OpenClaim := { program := "ytbfgdnogblagaaa", sum := "c23a6c01f063c0d30c8e6c940aae21350d7eaaaebda956ff0f2f5464e8c9c1a6", func := "loop.example/g01044/laws.FnExactBestCut", spec := "fnExactBestCut", unfollowed := true, recurses := true, apart := false }
def FnExactBestCutSaid : Prop := fnExactBestCutRow.holds Try.pinned (OpenSpec.ofChange fnExactBestCutSpec)

/-- ITS FALSE NEIGHBOUR: 'it returns false'. Refute it at one input. -/
def fnExactBestCutWrong : ChangeSpec := { name := "fnExactBestCut", fn := fun _ => fun
  | [d1, d2] => { results := [.lit (.bool false)], args := [d1, d2] }
  | _ => none }
def FnExactBestCutWrongFalsely : Prop := fnExactBestCutRow.holds Try.pinned (OpenSpec.ofChange fnExactBestCutWrong)

/- THE SECOND FORM. 'bulk': how many values and letters a reading holds, each counted each time it is reached (what is shared counts as often as it is met; a slice's spare places count too). A statement '..UptoSaid' is the law's where the arguments, and the package variables that the reading takes, are together of bulk at most 1048576: NARROWER than '..Said'. Prove '..Said' where nothing that the law and all that it calls make is longer than what came in: it says more and counts as full. Else prove '..UptoSaid'. A law counts once. -/
mutual
def uptoBulk {H : Type} : DataW H → Nat
  | .lit (.string bytes) => bytes.length + 1
  | .lit _ => 1
  | .nil => 1
  | .ptr d => uptoBulk d + 1
  | .slice elems spare => uptoBulkAll elems + uptoBulkAll spare + 1
  | .agg parts => uptoBulkAll parts + 1
  | .iface _ d => uptoBulk d + 1
  | .map entries => uptoBulkEntries entries + 1
  | .held _ => 1
def uptoBulkAll {H : Type} : List (DataW H) → Nat
  | [] => 0
  | d :: r => uptoBulk d + uptoBulkAll r
def uptoBulkEntries {H : Type} : List (Lit × DataW H) → Nat
  | [] => 0
  | x :: r => uptoBulkEntry x + uptoBulkEntries r
def uptoBulkEntry {H : Type} : Lit × DataW H → Nat
  | (.string bytes, d) => bytes.length + uptoBulk d + 1
  | (_, d) => uptoBulk d + 1
 end
def uptoSmall : (H : Type) → List (DataW H) → Bool := fun _ ds => decide (uptoBulkAll ds ≤ 1048576)
def OpenSpec.upto (s : _root_.Go.ChangeSpec) : _root_.Go.OpenSpec := { _root_.Go.OpenSpec.ofChange s with cond := some uptoSmall }

/-- 'laws.FnExactBeaufortOf', WHERE WHAT IT READS IS OF BULK AT MOST 1048576: true; the input reads as it did. -/
def fnExactBeaufortOfUptoRow : OpenClaim := { program := "ytbfgdnogblagaaa", sum := "c23a6c01f063c0d30c8e6c940aae21350d7eaaaebda956ff0f2f5464e8c9c1a6", func := "loop.example/g01044/laws.FnExactBeaufortOf", spec := "fnExactBeaufortOf", apart := false, narrowed := true }
def FnExactBeaufortOfUptoSaid : Prop := fnExactBeaufortOfUptoRow.holds Try.pinned (OpenSpec.upto fnExactBeaufortOfSpec)

/-- 'laws.FnExactSeizingLength', WHERE WHAT IT READS IS OF BULK AT MOST 1048576: true; the input reads as it did. -/
def fnExactSeizingLengthUptoRow : OpenClaim := { program := "ytbfgdnogblagaaa", sum := "c23a6c01f063c0d30c8e6c940aae21350d7eaaaebda956ff0f2f5464e8c9c1a6", func := "loop.example/g01044/laws.FnExactSeizingLength", spec := "fnExactSeizingLength", apart := false, narrowed := true }
def FnExactSeizingLengthUptoSaid : Prop := fnExactSeizingLengthUptoRow.holds Try.pinned (OpenSpec.upto fnExactSeizingLengthSpec)

/-- 'laws.FnExactValidCoils', WHERE WHAT IT READS IS OF BULK AT MOST 1048576: true; the input reads as it did. -/
def fnExactValidCoilsUptoRow : OpenClaim := { program := "ytbfgdnogblagaaa", sum := "c23a6c01f063c0d30c8e6c940aae21350d7eaaaebda956ff0f2f5464e8c9c1a6", func := "loop.example/g01044/laws.FnExactValidCoils", spec := "fnExactValidCoils", apart := false, narrowed := true }
def FnExactValidCoilsUptoSaid : Prop := fnExactValidCoilsUptoRow.holds Try.pinned (OpenSpec.upto fnExactValidCoilsSpec)

/-- 'laws.FnExactLullsOf', WHERE WHAT IT READS IS OF BULK AT MOST 1048576: true; the input reads as it did. -/
def fnExactLullsOfUptoRow : OpenClaim := { program := "ytbfgdnogblagaaa", sum := "c23a6c01f063c0d30c8e6c940aae21350d7eaaaebda956ff0f2f5464e8c9c1a6", func := "loop.example/g01044/laws.FnExactLullsOf", spec := "fnExactLullsOf", apart := false, narrowed := true }
def FnExactLullsOfUptoSaid : Prop := fnExactLullsOfUptoRow.holds Try.pinned (OpenSpec.upto fnExactLullsOfSpec)

/-- 'laws.FnExactSplicedPieces', WHERE WHAT IT READS IS OF BULK AT MOST 1048576: true; the input reads as it did. -/
def fnExactSplicedPiecesUptoRow : OpenClaim := { program := "ytbfgdnogblagaaa", sum := "c23a6c01f063c0d30c8e6c940aae21350d7eaaaebda956ff0f2f5464e8c9c1a6", func := "loop.example/g01044/laws.FnExactSplicedPieces", spec := "fnExactSplicedPieces", apart := false, narrowed := true }
def FnExactSplicedPiecesUptoSaid : Prop := fnExactSplicedPiecesUptoRow.holds Try.pinned (OpenSpec.upto fnExactSplicedPiecesSpec)

/-- 'laws.FnSplicing', WHERE WHAT IT READS IS OF BULK AT MOST 1048576: true; the input reads as it did. -/
def fnSplicingUptoRow : OpenClaim := { program := "ytbfgdnogblagaaa", sum := "c23a6c01f063c0d30c8e6c940aae21350d7eaaaebda956ff0f2f5464e8c9c1a6", func := "loop.example/g01044/laws.FnSplicing", spec := "fnSplicing", apart := false, narrowed := true }
def FnSplicingUptoSaid : Prop := fnSplicingUptoRow.holds Try.pinned (OpenSpec.upto fnSplicingSpec)

/-- 'laws.FnExactCutFault', WHERE WHAT IT READS IS OF BULK AT MOST 1048576: true; the input reads as it did. -/
def fnExactCutFaultUptoRow : OpenClaim := { program := "ytbfgdnogblagaaa", sum := "c23a6c01f063c0d30c8e6c940aae21350d7eaaaebda956ff0f2f5464e8c9c1a6", func := "loop.example/g01044/laws.FnExactCutFault", spec := "fnExactCutFault", apart := false, narrowed := true }
def FnExactCutFaultUptoSaid : Prop := fnExactCutFaultUptoRow.holds Try.pinned (OpenSpec.upto fnExactCutFaultSpec)

/-- 'laws.FnExactRestsAfter', WHERE WHAT IT READS IS OF BULK AT MOST 1048576: true; the input reads as it did. -/
def fnExactRestsAfterUptoRow : OpenClaim := { program := "ytbfgdnogblagaaa", sum := "c23a6c01f063c0d30c8e6c940aae21350d7eaaaebda956ff0f2f5464e8c9c1a6", func := "loop.example/g01044/laws.FnExactRestsAfter", spec := "fnExactRestsAfter", apart := false, narrowed := true }
def FnExactRestsAfterUptoSaid : Prop := fnExactRestsAfterUptoRow.holds Try.pinned (OpenSpec.upto fnExactRestsAfterSpec)

/-- 'laws.FnExactFirstCut', WHERE WHAT IT READS IS OF BULK AT MOST 1048576: true; the input reads as it did. -/
def fnExactFirstCutUptoRow : OpenClaim := { program := "ytbfgdnogblagaaa", sum := "c23a6c01f063c0d30c8e6c940aae21350d7eaaaebda956ff0f2f5464e8c9c1a6", func := "loop.example/g01044/laws.FnExactFirstCut", spec := "fnExactFirstCut", unfollowed := true, recurses := true, apart := false, narrowed := true }
def FnExactFirstCutUptoSaid : Prop := fnExactFirstCutUptoRow.holds Try.pinned (OpenSpec.upto fnExactFirstCutSpec)

/-- 'laws.FnExactTightCut', WHERE WHAT IT READS IS OF BULK AT MOST 1048576: true; the input reads as it did. -/
def fnExactTightCutUptoRow : OpenClaim := { program := "ytbfgdnogblagaaa", sum := "c23a6c01f063c0d30c8e6c940aae21350d7eaaaebda956ff0f2f5464e8c9c1a6", func := "loop.example/g01044/laws.FnExactTightCut", spec := "fnExactTightCut", unfollowed := true, recurses := true, apart := false, narrowed := true }
def FnExactTightCutUptoSaid : Prop := fnExactTightCutUptoRow.holds Try.pinned (OpenSpec.upto fnExactTightCutSpec)

/-- 'laws.FnExactLongestRest', WHERE WHAT IT READS IS OF BULK AT MOST 1048576: true; the input reads as it did. -/
def fnExactLongestRestUptoRow : OpenClaim := { program := "ytbfgdnogblagaaa", sum := "c23a6c01f063c0d30c8e6c940aae21350d7eaaaebda956ff0f2f5464e8c9c1a6", func := "loop.example/g01044/laws.FnExactLongestRest", spec := "fnExactLongestRest", unfollowed := true, recurses := true, apart := false, narrowed := true }
def FnExactLongestRestUptoSaid : Prop := fnExactLongestRestUptoRow.holds Try.pinned (OpenSpec.upto fnExactLongestRestSpec)

/-- 'laws.FnExactBestCut', WHERE WHAT IT READS IS OF BULK AT MOST 1048576: true; the input reads as it did. -/
def fnExactBestCutUptoRow : OpenClaim := { program := "ytbfgdnogblagaaa", sum := "c23a6c01f063c0d30c8e6c940aae21350d7eaaaebda956ff0f2f5464e8c9c1a6", func := "loop.example/g01044/laws.FnExactBestCut", spec := "fnExactBestCut", unfollowed := true, recurses := true, apart := false, narrowed := true }
def FnExactBestCutUptoSaid : Prop := fnExactBestCutUptoRow.holds Try.pinned (OpenSpec.upto fnExactBestCutSpec)

end Rows
end Go.Proofs.Ytbfgdnogblagaaa
