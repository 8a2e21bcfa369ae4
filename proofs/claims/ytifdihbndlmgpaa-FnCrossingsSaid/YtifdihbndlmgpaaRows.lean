/-
  No cell of these rows narrows 'for every input' (looked for: loops, veiled, ifaces, maps, wideKeys, modest, calm, conditions, laid).
  DERIVED. THE GIVEN ROWS OF THIS SEAT. 4 by the template 'for every input the law returns true; each argument reads behind the call as it read before'; 0 by the template 'total and deterministic' (their statements: YtifdihbndlmgpaaTotals.lean).
  GIVEN WITH THE SEED: the statements are not yours to turn. If you find one false, say at which input.
  Laid BY PROGRAM, IN A SANDBOX (cutbox-rows.mjs): the forced cells as the released guide's own fill.sh prints them over the translation c63ec54da15eb792… (all of the seat's roots in one cut). By AI agents, Wed Nov 11 2026. No macro, syntax, notation, axiom, sorry.
-/
import Derived.Test.YtifdihbndlmgpaaChecked
import GoSem.Claim
import GoSem.ClaimJoined
import GoSem.ClaimMapViews
import Derived.JoinedTies
import Derived.KernelRfl
namespace Go.Proofs.Ytifdihbndlmgpaa
/- THE CELL 'sum', in the pinned program and in every row, IS THE sha256 OF THE DUMP (.gsa) THAT YtifdihbndlmgpaaProg.lean LOADS. Nothing in Lean hashes anything: it is a label: what it is worth is what the hold of that sum in a sandbox is worth. -/
noncomputable def Try.pinned : Pinned := { name := "ytifdihbndlmgpaa", sum := "c63ec54da15eb792b5c7b14c754ae39c69909fca61e38248225f39917e2a2fad", checked := Try.checked }
namespace Rows
def none {H : Type} : Left H := { results := [], args := [] }

/-- 'laws.FnExactFewestCrossings': WHATEVER THE INPUT: true; the input reads as it did. -/
def fnExactFewestCrossingsSpec : ChangeSpec := { name := "fnExactFewestCrossings", fn := fun _ => fun
  | [d1, d2] => { results := [.lit (.bool true)], args := [d1, d2] }
  | _ => none }
def fnExactFewestCrossingsRow : OpenClaim := { program := "ytifdihbndlmgpaa", sum := "c63ec54da15eb792b5c7b14c754ae39c69909fca61e38248225f39917e2a2fad", func := "loop.example/g01044/laws.FnExactFewestCrossings", spec := "fnExactFewestCrossings", unfollowed := true, recurses := true, apart := false }
def FnExactFewestCrossingsSaid : Prop := fnExactFewestCrossingsRow.holds Try.pinned (OpenSpec.ofChange fnExactFewestCrossingsSpec)

/-- ITS FALSE NEIGHBOUR: 'it returns false'. Refute it at one input. -/
def fnExactFewestCrossingsWrong : ChangeSpec := { name := "fnExactFewestCrossings", fn := fun _ => fun
  | [d1, d2] => { results := [.lit (.bool false)], args := [d1, d2] }
  | _ => none }
def FnExactFewestCrossingsWrongFalsely : Prop := fnExactFewestCrossingsRow.holds Try.pinned (OpenSpec.ofChange fnExactFewestCrossingsWrong)

/-- 'laws.FnExactBestWay': WHATEVER THE INPUT: true; the input reads as it did. -/
def fnExactBestWaySpec : ChangeSpec := { name := "fnExactBestWay", fn := fun _ => fun
  | [d1, d2] => { results := [.lit (.bool true)], args := [d1, d2] }
  | _ => none }
def fnExactBestWayRow : OpenClaim := { program := "ytifdihbndlmgpaa", sum := "c63ec54da15eb792b5c7b14c754ae39c69909fca61e38248225f39917e2a2fad", func := "loop.example/g01044/laws.FnExactBestWay", spec := "fnExactBestWay", unfollowed := true, recurses := true, apart := false }
def FnExactBestWaySaid : Prop := fnExactBestWayRow.holds Try.pinned (OpenSpec.ofChange fnExactBestWaySpec)

/-- ITS FALSE NEIGHBOUR: 'it returns false'. Refute it at one input. -/
def fnExactBestWayWrong : ChangeSpec := { name := "fnExactBestWay", fn := fun _ => fun
  | [d1, d2] => { results := [.lit (.bool false)], args := [d1, d2] }
  | _ => none }
def FnExactBestWayWrongFalsely : Prop := fnExactBestWayRow.holds Try.pinned (OpenSpec.ofChange fnExactBestWayWrong)

/-- 'laws.FnExactPartsOfWay': WHATEVER THE INPUT: true; the input reads as it did. -/
def fnExactPartsOfWaySpec : ChangeSpec := { name := "fnExactPartsOfWay", fn := fun _ => fun
  | [d1, d2] => { results := [.lit (.bool true)], args := [d1, d2] }
  | _ => none }
def fnExactPartsOfWayRow : OpenClaim := { program := "ytifdihbndlmgpaa", sum := "c63ec54da15eb792b5c7b14c754ae39c69909fca61e38248225f39917e2a2fad", func := "loop.example/g01044/laws.FnExactPartsOfWay", spec := "fnExactPartsOfWay", apart := false }
def FnExactPartsOfWaySaid : Prop := fnExactPartsOfWayRow.holds Try.pinned (OpenSpec.ofChange fnExactPartsOfWaySpec)

/-- ITS FALSE NEIGHBOUR: 'it returns false'. Refute it at one input. -/
def fnExactPartsOfWayWrong : ChangeSpec := { name := "fnExactPartsOfWay", fn := fun _ => fun
  | [d1, d2] => { results := [.lit (.bool false)], args := [d1, d2] }
  | _ => none }
def FnExactPartsOfWayWrongFalsely : Prop := fnExactPartsOfWayRow.holds Try.pinned (OpenSpec.ofChange fnExactPartsOfWayWrong)

/-- 'laws.FnCrossings': WHATEVER THE INPUT: true; the input reads as it did. -/
def fnCrossingsSpec : ChangeSpec := { name := "fnCrossings", fn := fun _ => fun
  | [d] => { results := [.lit (.bool true)], args := [d] }
  | _ => none }
def fnCrossingsRow : OpenClaim := { program := "ytifdihbndlmgpaa", sum := "c63ec54da15eb792b5c7b14c754ae39c69909fca61e38248225f39917e2a2fad", func := "loop.example/g01044/laws.FnCrossings", spec := "fnCrossings", unfollowed := true, recurses := true, apart := false }
def FnCrossingsSaid : Prop := fnCrossingsRow.holds Try.pinned (OpenSpec.ofChange fnCrossingsSpec)

/-- ITS FALSE NEIGHBOUR: 'it returns false'. Refute it at one input. -/
def fnCrossingsWrong : ChangeSpec := { name := "fnCrossings", fn := fun _ => fun
  | [d] => { results := [.lit (.bool false)], args := [d] }
  | _ => none }
def FnCrossingsWrongFalsely : Prop := fnCrossingsRow.holds Try.pinned (OpenSpec.ofChange fnCrossingsWrong)

/- THE SECOND FORM. 'bulk': how many values and letters a reading holds, each counted each time it is reached (what is shared counts as often as it is met; a slice's spare places count too). A statement '..UptoSaid' is the law's where the arguments, and the package variables that the reading takes, are together of bulk at most 1048576: NARROWER than '..Said'. Prove '..Said' where nothing that the law and all that it calls make is longer than what came in: it says more and counts as full. Else prove '..UptoSaid'. A law counts once. -/
mutual
def uptoBulk {H : Type} : DataW H → Nat
  | .lit (.string bytes) => bytes.length + 1
  | .lit _ => 1
  | .nil => 1
  | .ptr d => uptoBulk d + 1
  | .slice elems spare => uptoBulkAll elems + uptoBulkAll spare + 1
  | .agg parts => uptoBulkAll parts + 1
  | .iface _ d => uptoBulk d + 1
  | .map entries => uptoBulkEntries entries + 1
  | .held _ => 1
def uptoBulkAll {H : Type} : List (DataW H) → Nat
  | [] => 0
  | d :: r => uptoBulk d + uptoBulkAll r
def uptoBulkEntries {H : Type} : List (Lit × DataW H) → Nat
  | [] => 0
  | x :: r => uptoBulkEntry x + uptoBulkEntries r
def uptoBulkEntry {H : Type} : Lit × DataW H → Nat
  | (.string bytes, d) => bytes.length + uptoBulk d + 1
  | (_, d) => uptoBulk d + 1
 end
def uptoSmall : (H : Type) → List (DataW H) → Bool := fun _ ds => decide (uptoBulkAll ds ≤ 1048576)
def OpenSpec.upto (s : _root_.Go.ChangeSpec) : _root_.Go.OpenSpec := { _root_.Go.OpenSpec.ofChange s with cond := some uptoSmall }

/-- 'laws.FnExactFewestCrossings', WHERE WHAT IT READS IS OF BULK AT MOST 1048576: true; the input reads as it did. -/
def fnExactFewestCrossingsUptoRow : OpenClaim := { program := "ytifdihbndlmgpaa", sum := "c63ec54da15eb792b5c7b14c754ae39c69909fca61e38248225f39917e2a2fad", func := "loop.example/g01044/laws.FnExactFewestCrossings", spec := "fnExactFewestCrossings", unfollowed := true, recurses := true, apart := false, narrowed := true }
def FnExactFewestCrossingsUptoSaid : Prop := fnExactFewestCrossingsUptoRow.holds Try.pinned (OpenSpec.upto fnExactFewestCrossingsSpec)

/-- 'laws.FnExactBestWay', WHERE WHAT IT READS IS OF BULK AT MOST 1048576: true; the input reads as it did. -/
def fnExactBestWayUptoRow : OpenClaim := { program := "ytifdihbndlmgpaa", sum := "c63ec54da15eb792b5c7b14c754ae39c69909fca61e38248225f39917e2a2fad", func := "loop.example/g01044/laws.FnExactBestWay", spec := "fnExactBestWay", unfollowed := true, recurses := true, apart := false, narrowed := true }
def FnExactBestWayUptoSaid : Prop := fnExactBestWayUptoRow.holds Try.pinned (OpenSpec.upto fnExactBestWaySpec)

/-- 'laws.FnExactPartsOfWay', WHERE WHAT IT READS IS OF BULK AT MOST 1048576: true; the input reads as it did. -/
def fnExactPartsOfWayUptoRow : OpenClaim := { program := "ytifdihbndlmgpaa", sum := "c63ec54da15eb792b5c7b14c754ae39c69909fca61e38248225f39917e2a2fad", func := "loop.example/g01044/laws.FnExactPartsOfWay", spec := "fnExactPartsOfWay", apart := false, narrowed := true }
def FnExactPartsOfWayUptoSaid : Prop := fnExactPartsOfWayUptoRow.holds Try.pinned (OpenSpec.upto fnExactPartsOfWaySpec)

/-- 'laws.FnCrossings', WHERE WHAT IT READS IS OF BULK AT MOST 1048576: true; the input reads as it did. -/
def fnCrossingsUptoRow : OpenClaim := { program := "ytifdihbndlmgpaa", sum := "c63ec54da15eb792b5c7b14c754ae39c69909fca61e38248225f39917e2a2fad", func := "loop.example/g01044/laws.FnCrossings", spec := "fnCrossings", unfollowed := true, recurses := true, apart := false, narrowed := true }
def FnCrossingsUptoSaid : Prop := fnCrossingsUptoRow.holds Try.pinned (OpenSpec.upto fnCrossingsSpec)

end Rows
end Go.Proofs.Ytifdihbndlmgpaa
