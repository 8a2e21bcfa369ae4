/-
  No cell of these rows narrows 'for every input' (looked for: loops, veiled, ifaces, maps, wideKeys, modest, calm, conditions, laid).
  DERIVED. THE GIVEN ROWS OF THIS SEAT. 11 by the template 'for every input the law returns true; each argument reads behind the call as it read before'; 0 by the template 'total and deterministic' (their statements: YtdhdokhfgadikaaTotals.lean).
  GIVEN WITH THE SEED: the statements are not yours to turn. If you find one false, say at which input.
  Laid BY PROGRAM, IN A SANDBOX (cutbox-rows.mjs): the forced cells as the released guide's own fill.sh prints them over the translation f73919af777ce9a7… (all of the seat's roots in one cut). By AI agents, Wed Nov 11 2026. No macro, syntax, notation, axiom, sorry.
-/
import Derived.Test.YtdhdokhfgadikaaChecked
import GoSem.Claim
import GoSem.ClaimJoined
import GoSem.ClaimMapViews
import Derived.JoinedTies
import Derived.KernelRfl
namespace Go.Proofs.Ytdhdokhfgadikaa
/- THE CELL 'sum', in the pinned program and in every row, IS THE sha256 OF THE DUMP (.gsa) THAT YtdhdokhfgadikaaProg.lean LOADS. Nothing in Lean hashes anything: it is a label: what it is worth is what the hold of that sum in a sandbox is worth. -/
noncomputable def Try.pinned : Pinned := { name := "ytdhdokhfgadikaa", sum := "f73919af777ce9a70210f7d28d8d236345571c8dc170098f1a34ccbe6ab05768", checked := Try.checked }
namespace Rows
def none {H : Type} : Left H := { results := [], args := [] }

/-- 'laws.FnExactPartTensions': WHATEVER THE INPUT: true; the input reads as it did. -/
def fnExactPartTensionsSpec : ChangeSpec := { name := "fnExactPartTensions", fn := fun _ => fun
  | [d1, d2, d3] => { results := [.lit (.bool true)], args := [d1, d2, d3] }
  | _ => none }
def fnExactPartTensionsRow : OpenClaim := { program := "ytdhdokhfgadikaa", sum := "f73919af777ce9a70210f7d28d8d236345571c8dc170098f1a34ccbe6ab05768", func := "loop.example/g01044/laws.FnExactPartTensions", spec := "fnExactPartTensions", apart := false }
def FnExactPartTensionsSaid : Prop := fnExactPartTensionsRow.holds Try.pinned (OpenSpec.ofChange fnExactPartTensionsSpec)

/-- ITS FALSE NEIGHBOUR: 'it returns false'. Refute it at one input. -/
def fnExactPartTensionsWrong : ChangeSpec := { name := "fnExactPartTensions", fn := fun _ => fun
  | [d1, d2, d3] => { results := [.lit (.bool false)], args := [d1, d2, d3] }
  | _ => none }
def FnExactPartTensionsWrongFalsely : Prop := fnExactPartTensionsRow.holds Try.pinned (OpenSpec.ofChange fnExactPartTensionsWrong)

/-- 'laws.FnExactHoldGain': WHATEVER THE INPUT: true; the input reads as it did. -/
def fnExactHoldGainSpec : ChangeSpec := { name := "fnExactHoldGain", fn := fun _ => fun
  | [d1, d2] => { results := [.lit (.bool true)], args := [d1, d2] }
  | _ => none }
def fnExactHoldGainRow : OpenClaim := { program := "ytdhdokhfgadikaa", sum := "f73919af777ce9a70210f7d28d8d236345571c8dc170098f1a34ccbe6ab05768", func := "loop.example/g01044/laws.FnExactHoldGain", spec := "fnExactHoldGain", apart := false }
def FnExactHoldGainSaid : Prop := fnExactHoldGainRow.holds Try.pinned (OpenSpec.ofChange fnExactHoldGainSpec)

/-- ITS FALSE NEIGHBOUR: 'it returns false'. Refute it at one input. -/
def fnExactHoldGainWrong : ChangeSpec := { name := "fnExactHoldGain", fn := fun _ => fun
  | [d1, d2] => { results := [.lit (.bool false)], args := [d1, d2] }
  | _ => none }
def FnExactHoldGainWrongFalsely : Prop := fnExactHoldGainRow.holds Try.pinned (OpenSpec.ofChange fnExactHoldGainWrong)

/-- 'laws.FnExactRaiseGain': WHATEVER THE INPUT: true; the input reads as it did. -/
def fnExactRaiseGainSpec : ChangeSpec := { name := "fnExactRaiseGain", fn := fun _ => fun
  | [d1, d2] => { results := [.lit (.bool true)], args := [d1, d2] }
  | _ => none }
def fnExactRaiseGainRow : OpenClaim := { program := "ytdhdokhfgadikaa", sum := "f73919af777ce9a70210f7d28d8d236345571c8dc170098f1a34ccbe6ab05768", func := "loop.example/g01044/laws.FnExactRaiseGain", spec := "fnExactRaiseGain", apart := false }
def FnExactRaiseGainSaid : Prop := fnExactRaiseGainRow.holds Try.pinned (OpenSpec.ofChange fnExactRaiseGainSpec)

/-- ITS FALSE NEIGHBOUR: 'it returns false'. Refute it at one input. -/
def fnExactRaiseGainWrong : ChangeSpec := { name := "fnExactRaiseGain", fn := fun _ => fun
  | [d1, d2] => { results := [.lit (.bool false)], args := [d1, d2] }
  | _ => none }
def FnExactRaiseGainWrongFalsely : Prop := fnExactRaiseGainRow.holds Try.pinned (OpenSpec.ofChange fnExactRaiseGainWrong)

/-- 'laws.FnExactEfficiencyOf': WHATEVER THE INPUT: true; the input reads as it did. -/
def fnExactEfficiencyOfSpec : ChangeSpec := { name := "fnExactEfficiencyOf", fn := fun _ => fun
  | [d1, d2] => { results := [.lit (.bool true)], args := [d1, d2] }
  | _ => none }
def fnExactEfficiencyOfRow : OpenClaim := { program := "ytdhdokhfgadikaa", sum := "f73919af777ce9a70210f7d28d8d236345571c8dc170098f1a34ccbe6ab05768", func := "loop.example/g01044/laws.FnExactEfficiencyOf", spec := "fnExactEfficiencyOf", apart := false }
def FnExactEfficiencyOfSaid : Prop := fnExactEfficiencyOfRow.holds Try.pinned (OpenSpec.ofChange fnExactEfficiencyOfSpec)

/-- ITS FALSE NEIGHBOUR: 'it returns false'. Refute it at one input. -/
def fnExactEfficiencyOfWrong : ChangeSpec := { name := "fnExactEfficiencyOf", fn := fun _ => fun
  | [d1, d2] => { results := [.lit (.bool false)], args := [d1, d2] }
  | _ => none }
def FnExactEfficiencyOfWrongFalsely : Prop := fnExactEfficiencyOfRow.holds Try.pinned (OpenSpec.ofChange fnExactEfficiencyOfWrong)

/-- 'laws.FnExactPurchaseForForce': WHATEVER THE INPUT: true; the input reads as it did. -/
def fnExactPurchaseForForceSpec : ChangeSpec := { name := "fnExactPurchaseForForce", fn := fun _ => fun
  | [d1, d2, d3] => { results := [.lit (.bool true)], args := [d1, d2, d3] }
  | _ => none }
def fnExactPurchaseForForceRow : OpenClaim := { program := "ytdhdokhfgadikaa", sum := "f73919af777ce9a70210f7d28d8d236345571c8dc170098f1a34ccbe6ab05768", func := "loop.example/g01044/laws.FnExactPurchaseForForce", spec := "fnExactPurchaseForForce", named := ["math/bits.divideError", "math/bits.overflowError"], apart := false }
def FnExactPurchaseForForceSaid : Prop := fnExactPurchaseForForceRow.holds Try.pinned (OpenSpec.ofChange fnExactPurchaseForForceSpec)

/-- ITS FALSE NEIGHBOUR: 'it returns false'. Refute it at one input. -/
def fnExactPurchaseForForceWrong : ChangeSpec := { name := "fnExactPurchaseForForce", fn := fun _ => fun
  | [d1, d2, d3] => { results := [.lit (.bool false)], args := [d1, d2, d3] }
  | _ => none }
def FnExactPurchaseForForceWrongFalsely : Prop := fnExactPurchaseForForceRow.holds Try.pinned (OpenSpec.ofChange fnExactPurchaseForForceWrong)

/-- 'laws.FnExactMostRaised': WHATEVER THE INPUT: true; the input reads as it did. -/
def fnExactMostRaisedSpec : ChangeSpec := { name := "fnExactMostRaised", fn := fun _ => fun
  | [d1, d2, d3] => { results := [.lit (.bool true)], args := [d1, d2, d3] }
  | _ => none }
def fnExactMostRaisedRow : OpenClaim := { program := "ytdhdokhfgadikaa", sum := "f73919af777ce9a70210f7d28d8d236345571c8dc170098f1a34ccbe6ab05768", func := "loop.example/g01044/laws.FnExactMostRaised", spec := "fnExactMostRaised", named := ["math/bits.divideError", "math/bits.overflowError"], apart := false }
def FnExactMostRaisedSaid : Prop := fnExactMostRaisedRow.holds Try.pinned (OpenSpec.ofChange fnExactMostRaisedSpec)

/-- ITS FALSE NEIGHBOUR: 'it returns false'. Refute it at one input. -/
def fnExactMostRaisedWrong : ChangeSpec := { name := "fnExactMostRaised", fn := fun _ => fun
  | [d1, d2, d3] => { results := [.lit (.bool false)], args := [d1, d2, d3] }
  | _ => none }
def FnExactMostRaisedWrongFalsely : Prop := fnExactMostRaisedRow.holds Try.pinned (OpenSpec.ofChange fnExactMostRaisedWrong)

/-- 'laws.FnExactCompareTackles': WHATEVER THE INPUT: true; the input reads as it did. -/
def fnExactCompareTacklesSpec : ChangeSpec := { name := "fnExactCompareTackles", fn := fun _ => fun
  | [d1, d2, d3] => { results := [.lit (.bool true)], args := [d1, d2, d3] }
  | _ => none }
def fnExactCompareTacklesRow : OpenClaim := { program := "ytdhdokhfgadikaa", sum := "f73919af777ce9a70210f7d28d8d236345571c8dc170098f1a34ccbe6ab05768", func := "loop.example/g01044/laws.FnExactCompareTackles", spec := "fnExactCompareTackles", apart := false }
def FnExactCompareTacklesSaid : Prop := fnExactCompareTacklesRow.holds Try.pinned (OpenSpec.ofChange fnExactCompareTacklesSpec)

/-- ITS FALSE NEIGHBOUR: 'it returns false'. Refute it at one input. -/
def fnExactCompareTacklesWrong : ChangeSpec := { name := "fnExactCompareTackles", fn := fun _ => fun
  | [d1, d2, d3] => { results := [.lit (.bool false)], args := [d1, d2, d3] }
  | _ => none }
def FnExactCompareTacklesWrongFalsely : Prop := fnExactCompareTacklesRow.holds Try.pinned (OpenSpec.ofChange fnExactCompareTacklesWrong)

/-- 'laws.FnExactHoldForce': WHATEVER THE INPUT: true; the input reads as it did. -/
def fnExactHoldForceSpec : ChangeSpec := { name := "fnExactHoldForce", fn := fun _ => fun
  | [d1, d2, d3] => { results := [.lit (.bool true)], args := [d1, d2, d3] }
  | _ => none }
def fnExactHoldForceRow : OpenClaim := { program := "ytdhdokhfgadikaa", sum := "f73919af777ce9a70210f7d28d8d236345571c8dc170098f1a34ccbe6ab05768", func := "loop.example/g01044/laws.FnExactHoldForce", spec := "fnExactHoldForce", named := ["math/bits.divideError", "math/bits.overflowError"], apart := false }
def FnExactHoldForceSaid : Prop := fnExactHoldForceRow.holds Try.pinned (OpenSpec.ofChange fnExactHoldForceSpec)

/-- ITS FALSE NEIGHBOUR: 'it returns false'. Refute it at one input. -/
def fnExactHoldForceWrong : ChangeSpec := { name := "fnExactHoldForce", fn := fun _ => fun
  | [d1, d2, d3] => { results := [.lit (.bool false)], args := [d1, d2, d3] }
  | _ => none }
def FnExactHoldForceWrongFalsely : Prop := fnExactHoldForceRow.holds Try.pinned (OpenSpec.ofChange fnExactHoldForceWrong)

/-- 'laws.FnExactRaiseForce': WHATEVER THE INPUT: true; the input reads as it did. -/
def fnExactRaiseForceSpec : ChangeSpec := { name := "fnExactRaiseForce", fn := fun _ => fun
  | [d1, d2, d3] => { results := [.lit (.bool true)], args := [d1, d2, d3] }
  | _ => none }
def fnExactRaiseForceRow : OpenClaim := { program := "ytdhdokhfgadikaa", sum := "f73919af777ce9a70210f7d28d8d236345571c8dc170098f1a34ccbe6ab05768", func := "loop.example/g01044/laws.FnExactRaiseForce", spec := "fnExactRaiseForce", named := ["math/bits.divideError", "math/bits.overflowError"], apart := false }
def FnExactRaiseForceSaid : Prop := fnExactRaiseForceRow.holds Try.pinned (OpenSpec.ofChange fnExactRaiseForceSpec)

/-- ITS FALSE NEIGHBOUR: 'it returns false'. Refute it at one input. -/
def fnExactRaiseForceWrong : ChangeSpec := { name := "fnExactRaiseForce", fn := fun _ => fun
  | [d1, d2, d3] => { results := [.lit (.bool false)], args := [d1, d2, d3] }
  | _ => none }
def FnExactRaiseForceWrongFalsely : Prop := fnExactRaiseForceRow.holds Try.pinned (OpenSpec.ofChange fnExactRaiseForceWrong)

/-- 'laws.FnForces': WHATEVER THE INPUT: true; the input reads as it did. -/
def fnForcesSpec : ChangeSpec := { name := "fnForces", fn := fun _ => fun
  | [d1, d2] => { results := [.lit (.bool true)], args := [d1, d2] }
  | _ => none }
def fnForcesRow : OpenClaim := { program := "ytdhdokhfgadikaa", sum := "f73919af777ce9a70210f7d28d8d236345571c8dc170098f1a34ccbe6ab05768", func := "loop.example/g01044/laws.FnForces", spec := "fnForces", named := ["math/bits.divideError", "math/bits.overflowError"], apart := false }
def FnForcesSaid : Prop := fnForcesRow.holds Try.pinned (OpenSpec.ofChange fnForcesSpec)

/-- ITS FALSE NEIGHBOUR: 'it returns false'. Refute it at one input. -/
def fnForcesWrong : ChangeSpec := { name := "fnForces", fn := fun _ => fun
  | [d1, d2] => { results := [.lit (.bool false)], args := [d1, d2] }
  | _ => none }
def FnForcesWrongFalsely : Prop := fnForcesRow.holds Try.pinned (OpenSpec.ofChange fnForcesWrong)

/-- 'laws.FnGains': WHATEVER THE INPUT: true; the input reads as it did. -/
def fnGainsSpec : ChangeSpec := { name := "fnGains", fn := fun _ => fun
  | [d1, d2] => { results := [.lit (.bool true)], args := [d1, d2] }
  | _ => none }
def fnGainsRow : OpenClaim := { program := "ytdhdokhfgadikaa", sum := "f73919af777ce9a70210f7d28d8d236345571c8dc170098f1a34ccbe6ab05768", func := "loop.example/g01044/laws.FnGains", spec := "fnGains", apart := false }
def FnGainsSaid : Prop := fnGainsRow.holds Try.pinned (OpenSpec.ofChange fnGainsSpec)

/-- ITS FALSE NEIGHBOUR: 'it returns false'. Refute it at one input. -/
def fnGainsWrong : ChangeSpec := { name := "fnGains", fn := fun _ => fun
  | [d1, d2] => { results := [.lit (.bool false)], args := [d1, d2] }
  | _ => none }
def FnGainsWrongFalsely : Prop := fnGainsRow.holds Try.pinned (OpenSpec.ofChange fnGainsWrong)

/- THE SECOND FORM. 'bulk': how many values and letters a reading holds, each counted each time it is reached (what is shared counts as often as it is met; a slice's spare places count too). A statement '..UptoSaid' is the law's where the arguments, and the package variables that the reading takes, are together of bulk at most 1048576: NARROWER than '..Said'. Prove '..Said' where nothing that the law and all that it calls make is longer than what came in: it says more and counts as full. Else prove '..UptoSaid'. A law counts once. -/
mutual
def uptoBulk {H : Type} : DataW H → Nat
  | .lit (.string bytes) => bytes.length + 1
  | .lit _ => 1
  | .nil => 1
  | .ptr d => uptoBulk d + 1
  | .slice elems spare => uptoBulkAll elems + uptoBulkAll spare + 1
  | .agg parts => uptoBulkAll parts + 1
  | .iface _ d => uptoBulk d + 1
  | .map entries => uptoBulkEntries entries + 1
  | .held _ => 1
def uptoBulkAll {H : Type} : List (DataW H) → Nat
  | [] => 0
  | d :: r => uptoBulk d + uptoBulkAll r
def uptoBulkEntries {H : Type} : List (Lit × DataW H) → Nat
  | [] => 0
  | x :: r => uptoBulkEntry x + uptoBulkEntries r
def uptoBulkEntry {H : Type} : Lit × DataW H → Nat
  | (.string bytes, d) => bytes.length + uptoBulk d + 1
  | (_, d) => uptoBulk d + 1
 end
def uptoSmall : (H : Type) → List (DataW H) → Bool := fun _ ds => decide (uptoBulkAll ds ≤ 1048576)
def OpenSpec.upto (s : _root_.Go.ChangeSpec) : _root_.Go.OpenSpec := { _root_.Go.OpenSpec.ofChange s with cond := some uptoSmall }

/-- 'laws.FnExactPartTensions', WHERE WHAT IT READS IS OF BULK AT MOST 1048576: true; the input reads as it did. -/
def fnExactPartTensionsUptoRow : OpenClaim := { program := "ytdhdokhfgadikaa", sum := "f73919af777ce9a70210f7d28d8d236345571c8dc170098f1a34ccbe6ab05768", func := "loop.example/g01044/laws.FnExactPartTensions", spec := "fnExactPartTensions", apart := false, narrowed := true }
def FnExactPartTensionsUptoSaid : Prop := fnExactPartTensionsUptoRow.holds Try.pinned (OpenSpec.upto fnExactPartTensionsSpec)

/-- 'laws.FnExactHoldGain', WHERE WHAT IT READS IS OF BULK AT MOST 1048576: true; the input reads as it did. -/
def fnExactHoldGainUptoRow : OpenClaim := { program := "ytdhdokhfgadikaa", sum := "f73919af777ce9a70210f7d28d8d236345571c8dc170098f1a34ccbe6ab05768", func := "loop.example/g01044/laws.FnExactHoldGain", spec := "fnExactHoldGain", apart := false, narrowed := true }
def FnExactHoldGainUptoSaid : Prop := fnExactHoldGainUptoRow.holds Try.pinned (OpenSpec.upto fnExactHoldGainSpec)

/-- 'laws.FnExactRaiseGain', WHERE WHAT IT READS IS OF BULK AT MOST 1048576: true; the input reads as it did. -/
def fnExactRaiseGainUptoRow : OpenClaim := { program := "ytdhdokhfgadikaa", sum := "f73919af777ce9a70210f7d28d8d236345571c8dc170098f1a34ccbe6ab05768", func := "loop.example/g01044/laws.FnExactRaiseGain", spec := "fnExactRaiseGain", apart := false, narrowed := true }
def FnExactRaiseGainUptoSaid : Prop := fnExactRaiseGainUptoRow.holds Try.pinned (OpenSpec.upto fnExactRaiseGainSpec)

/-- 'laws.FnExactEfficiencyOf', WHERE WHAT IT READS IS OF BULK AT MOST 1048576: true; the input reads as it did. -/
def fnExactEfficiencyOfUptoRow : OpenClaim := { program := "ytdhdokhfgadikaa", sum := "f73919af777ce9a70210f7d28d8d236345571c8dc170098f1a34ccbe6ab05768", func := "loop.example/g01044/laws.FnExactEfficiencyOf", spec := "fnExactEfficiencyOf", apart := false, narrowed := true }
def FnExactEfficiencyOfUptoSaid : Prop := fnExactEfficiencyOfUptoRow.holds Try.pinned (OpenSpec.upto fnExactEfficiencyOfSpec)

/-- 'laws.FnExactPurchaseForForce', WHERE WHAT IT READS IS OF BULK AT MOST 1048576: true; the input reads as it did. -/
def fnExactPurchaseForForceUptoRow : OpenClaim := { program := "ytdhdokhfgadikaa", sum := "f73919af777ce9a70210f7d28d8d236345571c8dc170098f1a34ccbe6ab05768", func := "loop.example/g01044/laws.FnExactPurchaseForForce", spec := "fnExactPurchaseForForce", named := ["math/bits.divideError", "math/bits.overflowError"], apart := false, narrowed := true }
def FnExactPurchaseForForceUptoSaid : Prop := fnExactPurchaseForForceUptoRow.holds Try.pinned (OpenSpec.upto fnExactPurchaseForForceSpec)

/-- 'laws.FnExactMostRaised', WHERE WHAT IT READS IS OF BULK AT MOST 1048576: true; the input reads as it did. -/
def fnExactMostRaisedUptoRow : OpenClaim := { program := "ytdhdokhfgadikaa", sum := "f73919af777ce9a70210f7d28d8d236345571c8dc170098f1a34ccbe6ab05768", func := "loop.example/g01044/laws.FnExactMostRaised", spec := "fnExactMostRaised", named := ["math/bits.divideError", "math/bits.overflowError"], apart := false, narrowed := true }
def FnExactMostRaisedUptoSaid : Prop := fnExactMostRaisedUptoRow.holds Try.pinned (OpenSpec.upto fnExactMostRaisedSpec)

/-- 'laws.FnExactCompareTackles', WHERE WHAT IT READS IS OF BULK AT MOST 1048576: true; the input reads as it did. -/
def fnExactCompareTacklesUptoRow : OpenClaim := { program := "ytdhdokhfgadikaa", sum := "f73919af777ce9a70210f7d28d8d236345571c8dc170098f1a34ccbe6ab05768", func := "loop.example/g01044/laws.FnExactCompareTackles", spec := "fnExactCompareTackles", apart := false, narrowed := true }
def FnExactCompareTacklesUptoSaid : Prop := fnExactCompareTacklesUptoRow.holds Try.pinned (OpenSpec.upto fnExactCompareTacklesSpec)

/-- 'laws.FnExactHoldForce', WHERE WHAT IT READS IS OF BULK AT MOST 1048576: true; the input reads as it did. -/
def fnExactHoldForceUptoRow : OpenClaim := { program := "ytdhdokhfgadikaa", sum := "f73919af777ce9a70210f7d28d8d236345571c8dc170098f1a34ccbe6ab05768", func := "loop.example/g01044/laws.FnExactHoldForce", spec := "fnExactHoldForce", named := ["math/bits.divideError", "math/bits.overflowError"], apart := false, narrowed := true }
def FnExactHoldForceUptoSaid : Prop := fnExactHoldForceUptoRow.holds Try.pinned (OpenSpec.upto fnExactHoldForceSpec)

/-- 'laws.FnExactRaiseForce', WHERE WHAT IT READS IS OF BULK AT MOST 1048576: true; the input reads as it did. -/
def fnExactRaiseForceUptoRow : OpenClaim := { program := "ytdhdokhfgadikaa", sum := "f73919af777ce9a70210f7d28d8d236345571c8dc170098f1a34ccbe6ab05768", func := "loop.example/g01044/laws.FnExactRaiseForce", spec := "fnExactRaiseForce", named := ["math/bits.divideError", "math/bits.overflowError"], apart := false, narrowed := true }
def FnExactRaiseForceUptoSaid : Prop := fnExactRaiseForceUptoRow.holds Try.pinned (OpenSpec.upto fnExactRaiseForceSpec)

/-- 'laws.FnForces', WHERE WHAT IT READS IS OF BULK AT MOST 1048576: true; the input reads as it did. -/
def fnForcesUptoRow : OpenClaim := { program := "ytdhdokhfgadikaa", sum := "f73919af777ce9a70210f7d28d8d236345571c8dc170098f1a34ccbe6ab05768", func := "loop.example/g01044/laws.FnForces", spec := "fnForces", named := ["math/bits.divideError", "math/bits.overflowError"], apart := false, narrowed := true }
def FnForcesUptoSaid : Prop := fnForcesUptoRow.holds Try.pinned (OpenSpec.upto fnForcesSpec)

/-- 'laws.FnGains', WHERE WHAT IT READS IS OF BULK AT MOST 1048576: true; the input reads as it did. -/
def fnGainsUptoRow : OpenClaim := { program := "ytdhdokhfgadikaa", sum := "f73919af777ce9a70210f7d28d8d236345571c8dc170098f1a34ccbe6ab05768", func := "loop.example/g01044/laws.FnGains", spec := "fnGains", apart := false, narrowed := true }
def FnGainsUptoSaid : Prop := fnGainsUptoRow.holds Try.pinned (OpenSpec.upto fnGainsSpec)

end Rows
end Go.Proofs.Ytdhdokhfgadikaa
