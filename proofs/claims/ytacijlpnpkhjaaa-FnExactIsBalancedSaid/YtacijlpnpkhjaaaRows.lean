/-
  No cell of these rows narrows 'for every input' (looked for: loops, veiled, ifaces, maps, wideKeys, modest, calm, conditions, laid).
  DERIVED. THE GIVEN ROWS OF THIS SEAT. 11 by the template 'for every input the law returns true; each argument reads behind the call as it read before'; 0 by the template 'total and deterministic' (their statements: YtacijlpnpkhjaaaTotals.lean).
  GIVEN WITH THE SEED: the statements are not yours to turn. If you find one false, say at which input.
  Laid BY PROGRAM, IN A SANDBOX (cutbox-rows.mjs): the forced cells as the released guide's own fill.sh prints them over the translation c89c6088d2aececb… (all of the seat's roots in one cut). By AI agents, Wed Nov 11 2026. No macro, syntax, notation, axiom, sorry.
-/
import Derived.Test.YtacijlpnpkhjaaaChecked
import GoSem.Claim
import GoSem.ClaimJoined
import GoSem.ClaimMapViews
import Derived.JoinedTies
import Derived.KernelRfl
namespace Go.Proofs.Ytacijlpnpkhjaaa
/- THE CELL 'sum', in the pinned program and in every row, IS THE sha256 OF THE DUMP (.gsa) THAT YtacijlpnpkhjaaaProg.lean LOADS. Nothing in Lean hashes anything: it is a label: what it is worth is what the hold of that sum in a sandbox is worth. -/
noncomputable def Try.pinned : Pinned := { name := "ytacijlpnpkhjaaa", sum := "c89c6088d2aececb395b994f5208046912a28e664082c075fa7cb0d91dab905b", checked := Try.checked }
namespace Rows
def none {H : Type} : Left H := { results := [], args := [] }

/-- 'laws.FnExactSameDensities': WHATEVER THE INPUT: true; the input reads as it did. -/
def fnExactSameDensitiesSpec : ChangeSpec := { name := "fnExactSameDensities", fn := fun _ => fun
  | [d1, d2] => { results := [.lit (.bool true)], args := [d1, d2] }
  | _ => none }
def fnExactSameDensitiesRow : OpenClaim := { program := "ytacijlpnpkhjaaa", sum := "c89c6088d2aececb395b994f5208046912a28e664082c075fa7cb0d91dab905b", func := "loop.example/g01044/laws.FnExactSameDensities", spec := "fnExactSameDensities", apart := false }
def FnExactSameDensitiesSaid : Prop := fnExactSameDensitiesRow.holds Try.pinned (OpenSpec.ofChange fnExactSameDensitiesSpec)

/-- ITS FALSE NEIGHBOUR: 'it returns false'. Refute it at one input. -/
def fnExactSameDensitiesWrong : ChangeSpec := { name := "fnExactSameDensities", fn := fun _ => fun
  | [d1, d2] => { results := [.lit (.bool false)], args := [d1, d2] }
  | _ => none }
def FnExactSameDensitiesWrongFalsely : Prop := fnExactSameDensitiesRow.holds Try.pinned (OpenSpec.ofChange fnExactSameDensitiesWrong)

/-- 'laws.FnExactSameFrame': WHATEVER THE INPUT: true; the input reads as it did. -/
def fnExactSameFrameSpec : ChangeSpec := { name := "fnExactSameFrame", fn := fun _ => fun
  | [d1, d2] => { results := [.lit (.bool true)], args := [d1, d2] }
  | _ => none }
def fnExactSameFrameRow : OpenClaim := { program := "ytacijlpnpkhjaaa", sum := "c89c6088d2aececb395b994f5208046912a28e664082c075fa7cb0d91dab905b", func := "loop.example/g01044/laws.FnExactSameFrame", spec := "fnExactSameFrame", apart := false }
def FnExactSameFrameSaid : Prop := fnExactSameFrameRow.holds Try.pinned (OpenSpec.ofChange fnExactSameFrameSpec)

/-- ITS FALSE NEIGHBOUR: 'it returns false'. Refute it at one input. -/
def fnExactSameFrameWrong : ChangeSpec := { name := "fnExactSameFrame", fn := fun _ => fun
  | [d1, d2] => { results := [.lit (.bool false)], args := [d1, d2] }
  | _ => none }
def FnExactSameFrameWrongFalsely : Prop := fnExactSameFrameRow.holds Try.pinned (OpenSpec.ofChange fnExactSameFrameWrong)

/-- 'laws.FnExactValidFrame': WHATEVER THE INPUT: true; the input reads as it did. -/
def fnExactValidFrameSpec : ChangeSpec := { name := "fnExactValidFrame", fn := fun _ => fun
  | [d] => { results := [.lit (.bool true)], args := [d] }
  | _ => none }
def fnExactValidFrameRow : OpenClaim := { program := "ytacijlpnpkhjaaa", sum := "c89c6088d2aececb395b994f5208046912a28e664082c075fa7cb0d91dab905b", func := "loop.example/g01044/laws.FnExactValidFrame", spec := "fnExactValidFrame", apart := false }
def FnExactValidFrameSaid : Prop := fnExactValidFrameRow.holds Try.pinned (OpenSpec.ofChange fnExactValidFrameSpec)

/-- ITS FALSE NEIGHBOUR: 'it returns false'. Refute it at one input. -/
def fnExactValidFrameWrong : ChangeSpec := { name := "fnExactValidFrame", fn := fun _ => fun
  | [d] => { results := [.lit (.bool false)], args := [d] }
  | _ => none }
def FnExactValidFrameWrongFalsely : Prop := fnExactValidFrameRow.holds Try.pinned (OpenSpec.ofChange fnExactValidFrameWrong)

/-- 'laws.FnExactSquareOfBar': WHATEVER THE INPUT: true; the input reads as it did. -/
def fnExactSquareOfBarSpec : ChangeSpec := { name := "fnExactSquareOfBar", fn := fun _ => fun
  | [d1, d2] => { results := [.lit (.bool true)], args := [d1, d2] }
  | _ => none }
def fnExactSquareOfBarRow : OpenClaim := { program := "ytacijlpnpkhjaaa", sum := "c89c6088d2aececb395b994f5208046912a28e664082c075fa7cb0d91dab905b", func := "loop.example/g01044/laws.FnExactSquareOfBar", spec := "fnExactSquareOfBar", apart := false }
def FnExactSquareOfBarSaid : Prop := fnExactSquareOfBarRow.holds Try.pinned (OpenSpec.ofChange fnExactSquareOfBarSpec)

/-- ITS FALSE NEIGHBOUR: 'it returns false'. Refute it at one input. -/
def fnExactSquareOfBarWrong : ChangeSpec := { name := "fnExactSquareOfBar", fn := fun _ => fun
  | [d1, d2] => { results := [.lit (.bool false)], args := [d1, d2] }
  | _ => none }
def FnExactSquareOfBarWrongFalsely : Prop := fnExactSquareOfBarRow.holds Try.pinned (OpenSpec.ofChange fnExactSquareOfBarWrong)

/-- 'laws.FnExactValidLoads': WHATEVER THE INPUT: true; the input reads as it did. -/
def fnExactValidLoadsSpec : ChangeSpec := { name := "fnExactValidLoads", fn := fun _ => fun
  | [d1, d2] => { results := [.lit (.bool true)], args := [d1, d2] }
  | _ => none }
def fnExactValidLoadsRow : OpenClaim := { program := "ytacijlpnpkhjaaa", sum := "c89c6088d2aececb395b994f5208046912a28e664082c075fa7cb0d91dab905b", func := "loop.example/g01044/laws.FnExactValidLoads", spec := "fnExactValidLoads", apart := false }
def FnExactValidLoadsSaid : Prop := fnExactValidLoadsRow.holds Try.pinned (OpenSpec.ofChange fnExactValidLoadsSpec)

/-- ITS FALSE NEIGHBOUR: 'it returns false'. Refute it at one input. -/
def fnExactValidLoadsWrong : ChangeSpec := { name := "fnExactValidLoads", fn := fun _ => fun
  | [d1, d2] => { results := [.lit (.bool false)], args := [d1, d2] }
  | _ => none }
def FnExactValidLoadsWrongFalsely : Prop := fnExactValidLoadsRow.holds Try.pinned (OpenSpec.ofChange fnExactValidLoadsWrong)

/-- 'laws.FnExactFreeKnots': WHATEVER THE INPUT: true; the input reads as it did. -/
def fnExactFreeKnotsSpec : ChangeSpec := { name := "fnExactFreeKnots", fn := fun _ => fun
  | [d] => { results := [.lit (.bool true)], args := [d] }
  | _ => none }
def fnExactFreeKnotsRow : OpenClaim := { program := "ytacijlpnpkhjaaa", sum := "c89c6088d2aececb395b994f5208046912a28e664082c075fa7cb0d91dab905b", func := "loop.example/g01044/laws.FnExactFreeKnots", spec := "fnExactFreeKnots", apart := false }
def FnExactFreeKnotsSaid : Prop := fnExactFreeKnotsRow.holds Try.pinned (OpenSpec.ofChange fnExactFreeKnotsSpec)

/-- ITS FALSE NEIGHBOUR: 'it returns false'. Refute it at one input. -/
def fnExactFreeKnotsWrong : ChangeSpec := { name := "fnExactFreeKnots", fn := fun _ => fun
  | [d] => { results := [.lit (.bool false)], args := [d] }
  | _ => none }
def FnExactFreeKnotsWrongFalsely : Prop := fnExactFreeKnotsRow.holds Try.pinned (OpenSpec.ofChange fnExactFreeKnotsWrong)

/-- 'laws.FnExactValidDensities': WHATEVER THE INPUT: true; the input reads as it did. -/
def fnExactValidDensitiesSpec : ChangeSpec := { name := "fnExactValidDensities", fn := fun _ => fun
  | [d1, d2] => { results := [.lit (.bool true)], args := [d1, d2] }
  | _ => none }
def fnExactValidDensitiesRow : OpenClaim := { program := "ytacijlpnpkhjaaa", sum := "c89c6088d2aececb395b994f5208046912a28e664082c075fa7cb0d91dab905b", func := "loop.example/g01044/laws.FnExactValidDensities", spec := "fnExactValidDensities", apart := false }
def FnExactValidDensitiesSaid : Prop := fnExactValidDensitiesRow.holds Try.pinned (OpenSpec.ofChange fnExactValidDensitiesSpec)

/-- ITS FALSE NEIGHBOUR: 'it returns false'. Refute it at one input. -/
def fnExactValidDensitiesWrong : ChangeSpec := { name := "fnExactValidDensities", fn := fun _ => fun
  | [d1, d2] => { results := [.lit (.bool false)], args := [d1, d2] }
  | _ => none }
def FnExactValidDensitiesWrongFalsely : Prop := fnExactValidDensitiesRow.holds Try.pinned (OpenSpec.ofChange fnExactValidDensitiesWrong)

/-- 'laws.FnExactSquareOfTension': WHATEVER THE INPUT: true; the input reads as it did. -/
def fnExactSquareOfTensionSpec : ChangeSpec := { name := "fnExactSquareOfTension", fn := fun _ => fun
  | [d1, d2, d3] => { results := [.lit (.bool true)], args := [d1, d2, d3] }
  | _ => none }
def fnExactSquareOfTensionRow : OpenClaim := { program := "ytacijlpnpkhjaaa", sum := "c89c6088d2aececb395b994f5208046912a28e664082c075fa7cb0d91dab905b", func := "loop.example/g01044/laws.FnExactSquareOfTension", spec := "fnExactSquareOfTension", apart := false }
def FnExactSquareOfTensionSaid : Prop := fnExactSquareOfTensionRow.holds Try.pinned (OpenSpec.ofChange fnExactSquareOfTensionSpec)

/-- ITS FALSE NEIGHBOUR: 'it returns false'. Refute it at one input. -/
def fnExactSquareOfTensionWrong : ChangeSpec := { name := "fnExactSquareOfTension", fn := fun _ => fun
  | [d1, d2, d3] => { results := [.lit (.bool false)], args := [d1, d2, d3] }
  | _ => none }
def FnExactSquareOfTensionWrongFalsely : Prop := fnExactSquareOfTensionRow.holds Try.pinned (OpenSpec.ofChange fnExactSquareOfTensionWrong)

/-- 'laws.FnExactScaleLoads': WHATEVER THE INPUT: true; the input reads as it did. -/
def fnExactScaleLoadsSpec : ChangeSpec := { name := "fnExactScaleLoads", fn := fun _ => fun
  | [d1, d2, d3] => { results := [.lit (.bool true)], args := [d1, d2, d3] }
  | _ => none }
def fnExactScaleLoadsRow : OpenClaim := { program := "ytacijlpnpkhjaaa", sum := "c89c6088d2aececb395b994f5208046912a28e664082c075fa7cb0d91dab905b", func := "loop.example/g01044/laws.FnExactScaleLoads", spec := "fnExactScaleLoads", apart := false }
def FnExactScaleLoadsSaid : Prop := fnExactScaleLoadsRow.holds Try.pinned (OpenSpec.ofChange fnExactScaleLoadsSpec)

/-- ITS FALSE NEIGHBOUR: 'it returns false'. Refute it at one input. -/
def fnExactScaleLoadsWrong : ChangeSpec := { name := "fnExactScaleLoads", fn := fun _ => fun
  | [d1, d2, d3] => { results := [.lit (.bool false)], args := [d1, d2, d3] }
  | _ => none }
def FnExactScaleLoadsWrongFalsely : Prop := fnExactScaleLoadsRow.holds Try.pinned (OpenSpec.ofChange fnExactScaleLoadsWrong)

/-- 'laws.FnExactPushedWires': WHATEVER THE INPUT: true; the input reads as it did. -/
def fnExactPushedWiresSpec : ChangeSpec := { name := "fnExactPushedWires", fn := fun _ => fun
  | [d1, d2] => { results := [.lit (.bool true)], args := [d1, d2] }
  | _ => none }
def fnExactPushedWiresRow : OpenClaim := { program := "ytacijlpnpkhjaaa", sum := "c89c6088d2aececb395b994f5208046912a28e664082c075fa7cb0d91dab905b", func := "loop.example/g01044/laws.FnExactPushedWires", spec := "fnExactPushedWires", apart := false }
def FnExactPushedWiresSaid : Prop := fnExactPushedWiresRow.holds Try.pinned (OpenSpec.ofChange fnExactPushedWiresSpec)

/-- ITS FALSE NEIGHBOUR: 'it returns false'. Refute it at one input. -/
def fnExactPushedWiresWrong : ChangeSpec := { name := "fnExactPushedWires", fn := fun _ => fun
  | [d1, d2] => { results := [.lit (.bool false)], args := [d1, d2] }
  | _ => none }
def FnExactPushedWiresWrongFalsely : Prop := fnExactPushedWiresRow.holds Try.pinned (OpenSpec.ofChange fnExactPushedWiresWrong)

/-- 'laws.FnExactIsBalanced': WHATEVER THE INPUT: true; the input reads as it did. -/
def fnExactIsBalancedSpec : ChangeSpec := { name := "fnExactIsBalanced", fn := fun _ => fun
  | [d1, d2, d3] => { results := [.lit (.bool true)], args := [d1, d2, d3] }
  | _ => none }
def fnExactIsBalancedRow : OpenClaim := { program := "ytacijlpnpkhjaaa", sum := "c89c6088d2aececb395b994f5208046912a28e664082c075fa7cb0d91dab905b", func := "loop.example/g01044/laws.FnExactIsBalanced", spec := "fnExactIsBalanced", apart := false }
def FnExactIsBalancedSaid : Prop := fnExactIsBalancedRow.holds Try.pinned (OpenSpec.ofChange fnExactIsBalancedSpec)

/-- ITS FALSE NEIGHBOUR: 'it returns false'. Refute it at one input. -/
def fnExactIsBalancedWrong : ChangeSpec := { name := "fnExactIsBalanced", fn := fun _ => fun
  | [d1, d2, d3] => { results := [.lit (.bool false)], args := [d1, d2, d3] }
  | _ => none }
def FnExactIsBalancedWrongFalsely : Prop := fnExactIsBalancedRow.holds Try.pinned (OpenSpec.ofChange fnExactIsBalancedWrong)

/- THE SECOND FORM. 'bulk': how many values and letters a reading holds, each counted each time it is reached (what is shared counts as often as it is met; a slice's spare places count too). A statement '..UptoSaid' is the law's where the arguments, and the package variables that the reading takes, are together of bulk at most 1048576: NARROWER than '..Said'. Prove '..Said' where nothing that the law and all that it calls make is longer than what came in: it says more and counts as full. Else prove '..UptoSaid'. A law counts once. -/
mutual
def uptoBulk {H : Type} : DataW H → Nat
  | .lit (.string bytes) => bytes.length + 1
  | .lit _ => 1
  | .nil => 1
  | .ptr d => uptoBulk d + 1
  | .slice elems spare => uptoBulkAll elems + uptoBulkAll spare + 1
  | .agg parts => uptoBulkAll parts + 1
  | .iface _ d => uptoBulk d + 1
  | .map entries => uptoBulkEntries entries + 1
  | .held _ => 1
def uptoBulkAll {H : Type} : List (DataW H) → Nat
  | [] => 0
  | d :: r => uptoBulk d + uptoBulkAll r
def uptoBulkEntries {H : Type} : List (Lit × DataW H) → Nat
  | [] => 0
  | x :: r => uptoBulkEntry x + uptoBulkEntries r
def uptoBulkEntry {H : Type} : Lit × DataW H → Nat
  | (.string bytes, d) => bytes.length + uptoBulk d + 1
  | (_, d) => uptoBulk d + 1
 end
def uptoSmall : (H : Type) → List (DataW H) → Bool := fun _ ds => decide (uptoBulkAll ds ≤ 1048576)
def OpenSpec.upto (s : _root_.Go.ChangeSpec) : _root_.Go.OpenSpec := { _root_.Go.OpenSpec.ofChange s with cond := some uptoSmall }

/-- 'laws.FnExactSameDensities', WHERE WHAT IT READS IS OF BULK AT MOST 1048576: true; the input reads as it did. -/
def fnExactSameDensitiesUptoRow : OpenClaim := { program := "ytacijlpnpkhjaaa", sum := "c89c6088d2aececb395b994f5208046912a28e664082c075fa7cb0d91dab905b", func := "loop.example/g01044/laws.FnExactSameDensities", spec := "fnExactSameDensities", apart := false, narrowed := true }
def FnExactSameDensitiesUptoSaid : Prop := fnExactSameDensitiesUptoRow.holds Try.pinned (OpenSpec.upto fnExactSameDensitiesSpec)

/-- 'laws.FnExactSameFrame', WHERE WHAT IT READS IS OF BULK AT MOST 1048576: true; the input reads as it did. -/
def fnExactSameFrameUptoRow : OpenClaim := { program := "ytacijlpnpkhjaaa", sum := "c89c6088d2aececb395b994f5208046912a28e664082c075fa7cb0d91dab905b", func := "loop.example/g01044/laws.FnExactSameFrame", spec := "fnExactSameFrame", apart := false, narrowed := true }
def FnExactSameFrameUptoSaid : Prop := fnExactSameFrameUptoRow.holds Try.pinned (OpenSpec.upto fnExactSameFrameSpec)

/-- 'laws.FnExactValidFrame', WHERE WHAT IT READS IS OF BULK AT MOST 1048576: true; the input reads as it did. -/
def fnExactValidFrameUptoRow : OpenClaim := { program := "ytacijlpnpkhjaaa", sum := "c89c6088d2aececb395b994f5208046912a28e664082c075fa7cb0d91dab905b", func := "loop.example/g01044/laws.FnExactValidFrame", spec := "fnExactValidFrame", apart := false, narrowed := true }
def FnExactValidFrameUptoSaid : Prop := fnExactValidFrameUptoRow.holds Try.pinned (OpenSpec.upto fnExactValidFrameSpec)

/-- 'laws.FnExactSquareOfBar', WHERE WHAT IT READS IS OF BULK AT MOST 1048576: true; the input reads as it did. -/
def fnExactSquareOfBarUptoRow : OpenClaim := { program := "ytacijlpnpkhjaaa", sum := "c89c6088d2aececb395b994f5208046912a28e664082c075fa7cb0d91dab905b", func := "loop.example/g01044/laws.FnExactSquareOfBar", spec := "fnExactSquareOfBar", apart := false, narrowed := true }
def FnExactSquareOfBarUptoSaid : Prop := fnExactSquareOfBarUptoRow.holds Try.pinned (OpenSpec.upto fnExactSquareOfBarSpec)

/-- 'laws.FnExactValidLoads', WHERE WHAT IT READS IS OF BULK AT MOST 1048576: true; the input reads as it did. -/
def fnExactValidLoadsUptoRow : OpenClaim := { program := "ytacijlpnpkhjaaa", sum := "c89c6088d2aececb395b994f5208046912a28e664082c075fa7cb0d91dab905b", func := "loop.example/g01044/laws.FnExactValidLoads", spec := "fnExactValidLoads", apart := false, narrowed := true }
def FnExactValidLoadsUptoSaid : Prop := fnExactValidLoadsUptoRow.holds Try.pinned (OpenSpec.upto fnExactValidLoadsSpec)

/-- 'laws.FnExactFreeKnots', WHERE WHAT IT READS IS OF BULK AT MOST 1048576: true; the input reads as it did. -/
def fnExactFreeKnotsUptoRow : OpenClaim := { program := "ytacijlpnpkhjaaa", sum := "c89c6088d2aececb395b994f5208046912a28e664082c075fa7cb0d91dab905b", func := "loop.example/g01044/laws.FnExactFreeKnots", spec := "fnExactFreeKnots", apart := false, narrowed := true }
def FnExactFreeKnotsUptoSaid : Prop := fnExactFreeKnotsUptoRow.holds Try.pinned (OpenSpec.upto fnExactFreeKnotsSpec)

/-- 'laws.FnExactValidDensities', WHERE WHAT IT READS IS OF BULK AT MOST 1048576: true; the input reads as it did. -/
def fnExactValidDensitiesUptoRow : OpenClaim := { program := "ytacijlpnpkhjaaa", sum := "c89c6088d2aececb395b994f5208046912a28e664082c075fa7cb0d91dab905b", func := "loop.example/g01044/laws.FnExactValidDensities", spec := "fnExactValidDensities", apart := false, narrowed := true }
def FnExactValidDensitiesUptoSaid : Prop := fnExactValidDensitiesUptoRow.holds Try.pinned (OpenSpec.upto fnExactValidDensitiesSpec)

/-- 'laws.FnExactSquareOfTension', WHERE WHAT IT READS IS OF BULK AT MOST 1048576: true; the input reads as it did. -/
def fnExactSquareOfTensionUptoRow : OpenClaim := { program := "ytacijlpnpkhjaaa", sum := "c89c6088d2aececb395b994f5208046912a28e664082c075fa7cb0d91dab905b", func := "loop.example/g01044/laws.FnExactSquareOfTension", spec := "fnExactSquareOfTension", apart := false, narrowed := true }
def FnExactSquareOfTensionUptoSaid : Prop := fnExactSquareOfTensionUptoRow.holds Try.pinned (OpenSpec.upto fnExactSquareOfTensionSpec)

/-- 'laws.FnExactScaleLoads', WHERE WHAT IT READS IS OF BULK AT MOST 1048576: true; the input reads as it did. -/
def fnExactScaleLoadsUptoRow : OpenClaim := { program := "ytacijlpnpkhjaaa", sum := "c89c6088d2aececb395b994f5208046912a28e664082c075fa7cb0d91dab905b", func := "loop.example/g01044/laws.FnExactScaleLoads", spec := "fnExactScaleLoads", apart := false, narrowed := true }
def FnExactScaleLoadsUptoSaid : Prop := fnExactScaleLoadsUptoRow.holds Try.pinned (OpenSpec.upto fnExactScaleLoadsSpec)

/-- 'laws.FnExactPushedWires', WHERE WHAT IT READS IS OF BULK AT MOST 1048576: true; the input reads as it did. -/
def fnExactPushedWiresUptoRow : OpenClaim := { program := "ytacijlpnpkhjaaa", sum := "c89c6088d2aececb395b994f5208046912a28e664082c075fa7cb0d91dab905b", func := "loop.example/g01044/laws.FnExactPushedWires", spec := "fnExactPushedWires", apart := false, narrowed := true }
def FnExactPushedWiresUptoSaid : Prop := fnExactPushedWiresUptoRow.holds Try.pinned (OpenSpec.upto fnExactPushedWiresSpec)

/-- 'laws.FnExactIsBalanced', WHERE WHAT IT READS IS OF BULK AT MOST 1048576: true; the input reads as it did. -/
def fnExactIsBalancedUptoRow : OpenClaim := { program := "ytacijlpnpkhjaaa", sum := "c89c6088d2aececb395b994f5208046912a28e664082c075fa7cb0d91dab905b", func := "loop.example/g01044/laws.FnExactIsBalanced", spec := "fnExactIsBalanced", apart := false, narrowed := true }
def FnExactIsBalancedUptoSaid : Prop := fnExactIsBalancedUptoRow.holds Try.pinned (OpenSpec.upto fnExactIsBalancedSpec)

end Rows
end Go.Proofs.Ytacijlpnpkhjaaa
