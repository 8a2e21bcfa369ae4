/-
  No cell of these rows narrows 'for every input' (looked for: loops, veiled, ifaces, maps, wideKeys, modest, calm, conditions, laid).
  DERIVED. THE GIVEN ROWS OF THIS SEAT. 10 by the template 'for every input the law returns true; each argument reads behind the call as it read before'; 0 by the template 'total and deterministic' (their statements: YtmpgcmfjjjmhmaaTotals.lean).
  GIVEN WITH THE SEED: the statements are not yours to turn. If you find one false, say at which input.
  Laid BY PROGRAM, IN A SANDBOX (cutbox-rows.mjs): the forced cells as the released guide's own fill.sh prints them over the translation abe9619e82d66260… (all of the seat's roots in one cut). By AI agents, Wed Nov 11 2026. No macro, syntax, notation, axiom, sorry.
-/
import Derived.Test.YtmpgcmfjjjmhmaaChecked
import GoSem.Claim
import GoSem.ClaimJoined
import GoSem.ClaimMapViews
import Derived.JoinedTies
import Derived.KernelRfl
namespace Go.Proofs.Ytmpgcmfjjjmhmaa
/- THE CELL 'sum', in the pinned program and in every row, IS THE sha256 OF THE DUMP (.gsa) THAT YtmpgcmfjjjmhmaaProg.lean LOADS. Nothing in Lean hashes anything: it is a label: what it is worth is what the hold of that sum in a sandbox is worth. -/
noncomputable def Try.pinned : Pinned := { name := "ytmpgcmfjjjmhmaa", sum := "abe9619e82d6626005876ae8a0d61265922a130a065d29d8429ee2319f61f843", checked := Try.checked }
namespace Rows
def none {H : Type} : Left H := { results := [], args := [] }

/-- 'laws.FnExactSameWay': WHATEVER THE INPUT: true; the input reads as it did. -/
def fnExactSameWaySpec : ChangeSpec := { name := "fnExactSameWay", fn := fun _ => fun
  | [d1, d2] => { results := [.lit (.bool true)], args := [d1, d2] }
  | _ => none }
def fnExactSameWayRow : OpenClaim := { program := "ytmpgcmfjjjmhmaa", sum := "abe9619e82d6626005876ae8a0d61265922a130a065d29d8429ee2319f61f843", func := "loop.example/g01044/laws.FnExactSameWay", spec := "fnExactSameWay", apart := false }
def FnExactSameWaySaid : Prop := fnExactSameWayRow.holds Try.pinned (OpenSpec.ofChange fnExactSameWaySpec)

/-- ITS FALSE NEIGHBOUR: 'it returns false'. Refute it at one input. -/
def fnExactSameWayWrong : ChangeSpec := { name := "fnExactSameWay", fn := fun _ => fun
  | [d1, d2] => { results := [.lit (.bool false)], args := [d1, d2] }
  | _ => none }
def FnExactSameWayWrongFalsely : Prop := fnExactSameWayRow.holds Try.pinned (OpenSpec.ofChange fnExactSameWayWrong)

/-- 'laws.FnExactIsWay': WHATEVER THE INPUT: true; the input reads as it did. -/
def fnExactIsWaySpec : ChangeSpec := { name := "fnExactIsWay", fn := fun _ => fun
  | [d1, d2] => { results := [.lit (.bool true)], args := [d1, d2] }
  | _ => none }
def fnExactIsWayRow : OpenClaim := { program := "ytmpgcmfjjjmhmaa", sum := "abe9619e82d6626005876ae8a0d61265922a130a065d29d8429ee2319f61f843", func := "loop.example/g01044/laws.FnExactIsWay", spec := "fnExactIsWay", apart := false }
def FnExactIsWaySaid : Prop := fnExactIsWayRow.holds Try.pinned (OpenSpec.ofChange fnExactIsWaySpec)

/-- ITS FALSE NEIGHBOUR: 'it returns false'. Refute it at one input. -/
def fnExactIsWayWrong : ChangeSpec := { name := "fnExactIsWay", fn := fun _ => fun
  | [d1, d2] => { results := [.lit (.bool false)], args := [d1, d2] }
  | _ => none }
def FnExactIsWayWrongFalsely : Prop := fnExactIsWayRow.holds Try.pinned (OpenSpec.ofChange fnExactIsWayWrong)

/-- 'laws.FnExactWayFault': WHATEVER THE INPUT: true; the input reads as it did. -/
def fnExactWayFaultSpec : ChangeSpec := { name := "fnExactWayFault", fn := fun _ => fun
  | [d1, d2] => { results := [.lit (.bool true)], args := [d1, d2] }
  | _ => none }
def fnExactWayFaultRow : OpenClaim := { program := "ytmpgcmfjjjmhmaa", sum := "abe9619e82d6626005876ae8a0d61265922a130a065d29d8429ee2319f61f843", func := "loop.example/g01044/laws.FnExactWayFault", spec := "fnExactWayFault", apart := false }
def FnExactWayFaultSaid : Prop := fnExactWayFaultRow.holds Try.pinned (OpenSpec.ofChange fnExactWayFaultSpec)

/-- ITS FALSE NEIGHBOUR: 'it returns false'. Refute it at one input. -/
def fnExactWayFaultWrong : ChangeSpec := { name := "fnExactWayFault", fn := fun _ => fun
  | [d1, d2] => { results := [.lit (.bool false)], args := [d1, d2] }
  | _ => none }
def FnExactWayFaultWrongFalsely : Prop := fnExactWayFaultRow.holds Try.pinned (OpenSpec.ofChange fnExactWayFaultWrong)

/-- 'laws.FnExactMirrorWay': WHATEVER THE INPUT: true; the input reads as it did. -/
def fnExactMirrorWaySpec : ChangeSpec := { name := "fnExactMirrorWay", fn := fun _ => fun
  | [d1, d2] => { results := [.lit (.bool true)], args := [d1, d2] }
  | _ => none }
def fnExactMirrorWayRow : OpenClaim := { program := "ytmpgcmfjjjmhmaa", sum := "abe9619e82d6626005876ae8a0d61265922a130a065d29d8429ee2319f61f843", func := "loop.example/g01044/laws.FnExactMirrorWay", spec := "fnExactMirrorWay", apart := false }
def FnExactMirrorWaySaid : Prop := fnExactMirrorWayRow.holds Try.pinned (OpenSpec.ofChange fnExactMirrorWaySpec)

/-- ITS FALSE NEIGHBOUR: 'it returns false'. Refute it at one input. -/
def fnExactMirrorWayWrong : ChangeSpec := { name := "fnExactMirrorWay", fn := fun _ => fun
  | [d1, d2] => { results := [.lit (.bool false)], args := [d1, d2] }
  | _ => none }
def FnExactMirrorWayWrongFalsely : Prop := fnExactMirrorWayRow.holds Try.pinned (OpenSpec.ofChange fnExactMirrorWayWrong)

/-- 'laws.FnExactPartsOfWay': WHATEVER THE INPUT: true; the input reads as it did. -/
def fnExactPartsOfWaySpec : ChangeSpec := { name := "fnExactPartsOfWay", fn := fun _ => fun
  | [d1, d2] => { results := [.lit (.bool true)], args := [d1, d2] }
  | _ => none }
def fnExactPartsOfWayRow : OpenClaim := { program := "ytmpgcmfjjjmhmaa", sum := "abe9619e82d6626005876ae8a0d61265922a130a065d29d8429ee2319f61f843", func := "loop.example/g01044/laws.FnExactPartsOfWay", spec := "fnExactPartsOfWay", apart := false }
def FnExactPartsOfWaySaid : Prop := fnExactPartsOfWayRow.holds Try.pinned (OpenSpec.ofChange fnExactPartsOfWaySpec)

/-- ITS FALSE NEIGHBOUR: 'it returns false'. Refute it at one input. -/
def fnExactPartsOfWayWrong : ChangeSpec := { name := "fnExactPartsOfWay", fn := fun _ => fun
  | [d1, d2] => { results := [.lit (.bool false)], args := [d1, d2] }
  | _ => none }
def FnExactPartsOfWayWrongFalsely : Prop := fnExactPartsOfWayRow.holds Try.pinned (OpenSpec.ofChange fnExactPartsOfWayWrong)

/-- 'laws.FnExactPlainWay': WHATEVER THE INPUT: true; the input reads as it did. -/
def fnExactPlainWaySpec : ChangeSpec := { name := "fnExactPlainWay", fn := fun _ => fun
  | [d] => { results := [.lit (.bool true)], args := [d] }
  | _ => none }
def fnExactPlainWayRow : OpenClaim := { program := "ytmpgcmfjjjmhmaa", sum := "abe9619e82d6626005876ae8a0d61265922a130a065d29d8429ee2319f61f843", func := "loop.example/g01044/laws.FnExactPlainWay", spec := "fnExactPlainWay", apart := false }
def FnExactPlainWaySaid : Prop := fnExactPlainWayRow.holds Try.pinned (OpenSpec.ofChange fnExactPlainWaySpec)

/-- ITS FALSE NEIGHBOUR: 'it returns false'. Refute it at one input. -/
def fnExactPlainWayWrong : ChangeSpec := { name := "fnExactPlainWay", fn := fun _ => fun
  | [d] => { results := [.lit (.bool false)], args := [d] }
  | _ => none }
def FnExactPlainWayWrongFalsely : Prop := fnExactPlainWayRow.holds Try.pinned (OpenSpec.ofChange fnExactPlainWayWrong)

/-- 'laws.FnExactFirstCrossing': WHATEVER THE INPUT: true; the input reads as it did. -/
def fnExactFirstCrossingSpec : ChangeSpec := { name := "fnExactFirstCrossing", fn := fun _ => fun
  | [d1, d2, d3] => { results := [.lit (.bool true)], args := [d1, d2, d3] }
  | _ => none }
def fnExactFirstCrossingRow : OpenClaim := { program := "ytmpgcmfjjjmhmaa", sum := "abe9619e82d6626005876ae8a0d61265922a130a065d29d8429ee2319f61f843", func := "loop.example/g01044/laws.FnExactFirstCrossing", spec := "fnExactFirstCrossing", apart := false }
def FnExactFirstCrossingSaid : Prop := fnExactFirstCrossingRow.holds Try.pinned (OpenSpec.ofChange fnExactFirstCrossingSpec)

/-- ITS FALSE NEIGHBOUR: 'it returns false'. Refute it at one input. -/
def fnExactFirstCrossingWrong : ChangeSpec := { name := "fnExactFirstCrossing", fn := fun _ => fun
  | [d1, d2, d3] => { results := [.lit (.bool false)], args := [d1, d2, d3] }
  | _ => none }
def FnExactFirstCrossingWrongFalsely : Prop := fnExactFirstCrossingRow.holds Try.pinned (OpenSpec.ofChange fnExactFirstCrossingWrong)

/-- 'laws.FnExactCrossingsOf': WHATEVER THE INPUT: true; the input reads as it did. -/
def fnExactCrossingsOfSpec : ChangeSpec := { name := "fnExactCrossingsOf", fn := fun _ => fun
  | [d1, d2, d3] => { results := [.lit (.bool true)], args := [d1, d2, d3] }
  | _ => none }
def fnExactCrossingsOfRow : OpenClaim := { program := "ytmpgcmfjjjmhmaa", sum := "abe9619e82d6626005876ae8a0d61265922a130a065d29d8429ee2319f61f843", func := "loop.example/g01044/laws.FnExactCrossingsOf", spec := "fnExactCrossingsOf", apart := false }
def FnExactCrossingsOfSaid : Prop := fnExactCrossingsOfRow.holds Try.pinned (OpenSpec.ofChange fnExactCrossingsOfSpec)

/-- ITS FALSE NEIGHBOUR: 'it returns false'. Refute it at one input. -/
def fnExactCrossingsOfWrong : ChangeSpec := { name := "fnExactCrossingsOf", fn := fun _ => fun
  | [d1, d2, d3] => { results := [.lit (.bool false)], args := [d1, d2, d3] }
  | _ => none }
def FnExactCrossingsOfWrongFalsely : Prop := fnExactCrossingsOfRow.holds Try.pinned (OpenSpec.ofChange fnExactCrossingsOfWrong)

/-- 'laws.FnExactFewestCrossings': WHATEVER THE INPUT: true; the input reads as it did. -/
def fnExactFewestCrossingsSpec : ChangeSpec := { name := "fnExactFewestCrossings", fn := fun _ => fun
  | [d1, d2] => { results := [.lit (.bool true)], args := [d1, d2] }
  | _ => none }
def fnExactFewestCrossingsRow : OpenClaim := { program := "ytmpgcmfjjjmhmaa", sum := "abe9619e82d6626005876ae8a0d61265922a130a065d29d8429ee2319f61f843", func := "loop.example/g01044/laws.FnExactFewestCrossings", spec := "fnExactFewestCrossings", unfollowed := true, recurses := true, apart := false }
def FnExactFewestCrossingsSaid : Prop := fnExactFewestCrossingsRow.holds Try.pinned (OpenSpec.ofChange fnExactFewestCrossingsSpec)

/-- ITS FALSE NEIGHBOUR: 'it returns false'. Refute it at one input. -/
def fnExactFewestCrossingsWrong : ChangeSpec := { name := "fnExactFewestCrossings", fn := fun _ => fun
  | [d1, d2] => { results := [.lit (.bool false)], args := [d1, d2] }
  | _ => none }
def FnExactFewestCrossingsWrongFalsely : Prop := fnExactFewestCrossingsRow.holds Try.pinned (OpenSpec.ofChange fnExactFewestCrossingsWrong)

/-- 'laws.FnExactBestWay': WHATEVER THE INPUT: true; the input reads as it did. -/
def fnExactBestWaySpec : ChangeSpec := { name := "fnExactBestWay", fn := fun _ => fun
  | [d1, d2] => { results := [.lit (.bool true)], args := [d1, d2] }
  | _ => none }
def fnExactBestWayRow : OpenClaim := { program := "ytmpgcmfjjjmhmaa", sum := "abe9619e82d6626005876ae8a0d61265922a130a065d29d8429ee2319f61f843", func := "loop.example/g01044/laws.FnExactBestWay", spec := "fnExactBestWay", unfollowed := true, recurses := true, apart := false }
def FnExactBestWaySaid : Prop := fnExactBestWayRow.holds Try.pinned (OpenSpec.ofChange fnExactBestWaySpec)

/-- ITS FALSE NEIGHBOUR: 'it returns false'. Refute it at one input. -/
def fnExactBestWayWrong : ChangeSpec := { name := "fnExactBestWay", fn := fun _ => fun
  | [d1, d2] => { results := [.lit (.bool false)], args := [d1, d2] }
  | _ => none }
def FnExactBestWayWrongFalsely : Prop := fnExactBestWayRow.holds Try.pinned (OpenSpec.ofChange fnExactBestWayWrong)

/- THE SECOND FORM. 'bulk': how many values and letters a reading holds, each counted each time it is reached (what is shared counts as often as it is met; a slice's spare places count too). A statement '..UptoSaid' is the law's where the arguments, and the package variables that the reading takes, are together of bulk at most 1048576: NARROWER than '..Said'. Prove '..Said' where nothing that the law and all that it calls make is longer than what came in: it says more and counts as full. Else prove '..UptoSaid'. A law counts once. -/
mutual
def uptoBulk {H : Type} : DataW H → Nat
  | .lit (.string bytes) => bytes.length + 1
  | .lit _ => 1
  | .nil => 1
  | .ptr d => uptoBulk d + 1
  | .slice elems spare => uptoBulkAll elems + uptoBulkAll spare + 1
  | .agg parts => uptoBulkAll parts + 1
  | .iface _ d => uptoBulk d + 1
  | .map entries => uptoBulkEntries entries + 1
  | .held _ => 1
def uptoBulkAll {H : Type} : List (DataW H) → Nat
  | [] => 0
  | d :: r => uptoBulk d + uptoBulkAll r
def uptoBulkEntries {H : Type} : List (Lit × DataW H) → Nat
  | [] => 0
  | x :: r => uptoBulkEntry x + uptoBulkEntries r
def uptoBulkEntry {H : Type} : Lit × DataW H → Nat
  | (.string bytes, d) => bytes.length + uptoBulk d + 1
  | (_, d) => uptoBulk d + 1
 end
def uptoSmall : (H : Type) → List (DataW H) → Bool := fun _ ds => decide (uptoBulkAll ds ≤ 1048576)
def OpenSpec.upto (s : _root_.Go.ChangeSpec) : _root_.Go.OpenSpec := { _root_.Go.OpenSpec.ofChange s with cond := some uptoSmall }

/-- 'laws.FnExactSameWay', WHERE WHAT IT READS IS OF BULK AT MOST 1048576: true; the input reads as it did. -/
def fnExactSameWayUptoRow : OpenClaim := { program := "ytmpgcmfjjjmhmaa", sum := "abe9619e82d6626005876ae8a0d61265922a130a065d29d8429ee2319f61f843", func := "loop.example/g01044/laws.FnExactSameWay", spec := "fnExactSameWay", apart := false, narrowed := true }
def FnExactSameWayUptoSaid : Prop := fnExactSameWayUptoRow.holds Try.pinned (OpenSpec.upto fnExactSameWaySpec)

/-- 'laws.FnExactIsWay', WHERE WHAT IT READS IS OF BULK AT MOST 1048576: true; the input reads as it did. -/
def fnExactIsWayUptoRow : OpenClaim := { program := "ytmpgcmfjjjmhmaa", sum := "abe9619e82d6626005876ae8a0d61265922a130a065d29d8429ee2319f61f843", func := "loop.example/g01044/laws.FnExactIsWay", spec := "fnExactIsWay", apart := false, narrowed := true }
def FnExactIsWayUptoSaid : Prop := fnExactIsWayUptoRow.holds Try.pinned (OpenSpec.upto fnExactIsWaySpec)

/-- 'laws.FnExactWayFault', WHERE WHAT IT READS IS OF BULK AT MOST 1048576: true; the input reads as it did. -/
def fnExactWayFaultUptoRow : OpenClaim := { program := "ytmpgcmfjjjmhmaa", sum := "abe9619e82d6626005876ae8a0d61265922a130a065d29d8429ee2319f61f843", func := "loop.example/g01044/laws.FnExactWayFault", spec := "fnExactWayFault", apart := false, narrowed := true }
def FnExactWayFaultUptoSaid : Prop := fnExactWayFaultUptoRow.holds Try.pinned (OpenSpec.upto fnExactWayFaultSpec)

/-- 'laws.FnExactMirrorWay', WHERE WHAT IT READS IS OF BULK AT MOST 1048576: true; the input reads as it did. -/
def fnExactMirrorWayUptoRow : OpenClaim := { program := "ytmpgcmfjjjmhmaa", sum := "abe9619e82d6626005876ae8a0d61265922a130a065d29d8429ee2319f61f843", func := "loop.example/g01044/laws.FnExactMirrorWay", spec := "fnExactMirrorWay", apart := false, narrowed := true }
def FnExactMirrorWayUptoSaid : Prop := fnExactMirrorWayUptoRow.holds Try.pinned (OpenSpec.upto fnExactMirrorWaySpec)

/-- 'laws.FnExactPartsOfWay', WHERE WHAT IT READS IS OF BULK AT MOST 1048576: true; the input reads as it did. -/
def fnExactPartsOfWayUptoRow : OpenClaim := { program := "ytmpgcmfjjjmhmaa", sum := "abe9619e82d6626005876ae8a0d61265922a130a065d29d8429ee2319f61f843", func := "loop.example/g01044/laws.FnExactPartsOfWay", spec := "fnExactPartsOfWay", apart := false, narrowed := true }
def FnExactPartsOfWayUptoSaid : Prop := fnExactPartsOfWayUptoRow.holds Try.pinned (OpenSpec.upto fnExactPartsOfWaySpec)

/-- 'laws.FnExactPlainWay', WHERE WHAT IT READS IS OF BULK AT MOST 1048576: true; the input reads as it did. -/
def fnExactPlainWayUptoRow : OpenClaim := { program := "ytmpgcmfjjjmhmaa", sum := "abe9619e82d6626005876ae8a0d61265922a130a065d29d8429ee2319f61f843", func := "loop.example/g01044/laws.FnExactPlainWay", spec := "fnExactPlainWay", apart := false, narrowed := true }
def FnExactPlainWayUptoSaid : Prop := fnExactPlainWayUptoRow.holds Try.pinned (OpenSpec.upto fnExactPlainWaySpec)

/-- 'laws.FnExactFirstCrossing', WHERE WHAT IT READS IS OF BULK AT MOST 1048576: true; the input reads as it did. -/
def fnExactFirstCrossingUptoRow : OpenClaim := { program := "ytmpgcmfjjjmhmaa", sum := "abe9619e82d6626005876ae8a0d61265922a130a065d29d8429ee2319f61f843", func := "loop.example/g01044/laws.FnExactFirstCrossing", spec := "fnExactFirstCrossing", apart := false, narrowed := true }
def FnExactFirstCrossingUptoSaid : Prop := fnExactFirstCrossingUptoRow.holds Try.pinned (OpenSpec.upto fnExactFirstCrossingSpec)

/-- 'laws.FnExactCrossingsOf', WHERE WHAT IT READS IS OF BULK AT MOST 1048576: true; the input reads as it did. -/
def fnExactCrossingsOfUptoRow : OpenClaim := { program := "ytmpgcmfjjjmhmaa", sum := "abe9619e82d6626005876ae8a0d61265922a130a065d29d8429ee2319f61f843", func := "loop.example/g01044/laws.FnExactCrossingsOf", spec := "fnExactCrossingsOf", apart := false, narrowed := true }
def FnExactCrossingsOfUptoSaid : Prop := fnExactCrossingsOfUptoRow.holds Try.pinned (OpenSpec.upto fnExactCrossingsOfSpec)

/-- 'laws.FnExactFewestCrossings', WHERE WHAT IT READS IS OF BULK AT MOST 1048576: true; the input reads as it did. -/
def fnExactFewestCrossingsUptoRow : OpenClaim := { program := "ytmpgcmfjjjmhmaa", sum := "abe9619e82d6626005876ae8a0d61265922a130a065d29d8429ee2319f61f843", func := "loop.example/g01044/laws.FnExactFewestCrossings", spec := "fnExactFewestCrossings", unfollowed := true, recurses := true, apart := false, narrowed := true }
def FnExactFewestCrossingsUptoSaid : Prop := fnExactFewestCrossingsUptoRow.holds Try.pinned (OpenSpec.upto fnExactFewestCrossingsSpec)

/-- 'laws.FnExactBestWay', WHERE WHAT IT READS IS OF BULK AT MOST 1048576: true; the input reads as it did. -/
def fnExactBestWayUptoRow : OpenClaim := { program := "ytmpgcmfjjjmhmaa", sum := "abe9619e82d6626005876ae8a0d61265922a130a065d29d8429ee2319f61f843", func := "loop.example/g01044/laws.FnExactBestWay", spec := "fnExactBestWay", unfollowed := true, recurses := true, apart := false, narrowed := true }
def FnExactBestWayUptoSaid : Prop := fnExactBestWayUptoRow.holds Try.pinned (OpenSpec.upto fnExactBestWaySpec)

end Rows
end Go.Proofs.Ytmpgcmfjjjmhmaa
