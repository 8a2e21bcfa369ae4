/-
  No cell of these rows narrows 'for every input' (looked for: loops, veiled, ifaces, maps, wideKeys, modest, calm, conditions, laid).
  DERIVED. THE GIVEN ROWS OF THIS SEAT. 3 by the template 'for every input the law returns true; each argument reads behind the call as it read before'; 0 by the template 'total and deterministic' (their statements: YtmgnloojcnoffaaTotals.lean).
  GIVEN WITH THE SEED: the statements are not yours to turn. If you find one false, say at which input.
  Laid BY PROGRAM, IN A SANDBOX (cutbox-rows.mjs): the forced cells as the released guide's own fill.sh prints them over the translation e4be5940b1d172ec… (all of the seat's roots in one cut). By AI agents, Wed Nov 11 2026. No macro, syntax, notation, axiom, sorry.
-/
import Derived.Test.YtmgnloojcnoffaaChecked
import GoSem.Claim
import GoSem.ClaimJoined
import GoSem.ClaimMapViews
import Derived.JoinedTies
import Derived.KernelRfl
namespace Go.Proofs.Ytmgnloojcnoffaa
/- THE CELL 'sum', in the pinned program and in every row, IS THE sha256 OF THE DUMP (.gsa) THAT YtmgnloojcnoffaaProg.lean LOADS. Nothing in Lean hashes anything: it is a label: what it is worth is what the hold of that sum in a sandbox is worth. -/
noncomputable def Try.pinned : Pinned := { name := "ytmgnloojcnoffaa", sum := "e4be5940b1d172ec19f5e4aa59b0ae2db29d8a273d3ea0936ce76d1500b2bf68", checked := Try.checked }
namespace Rows
def none {H : Type} : Left H := { results := [], args := [] }

/-- 'laws.FnExactLongestRest': WHATEVER THE INPUT: true; the input reads as it did. -/
def fnExactLongestRestSpec : ChangeSpec := { name := "fnExactLongestRest", fn := fun _ => fun
  | [d1, d2] => { results := [.lit (.bool true)], args := [d1, d2] }
  | _ => none }
def fnExactLongestRestRow : OpenClaim := { program := "ytmgnloojcnoffaa", sum := "e4be5940b1d172ec19f5e4aa59b0ae2db29d8a273d3ea0936ce76d1500b2bf68", func := "loop.example/g01044/laws.FnExactLongestRest", spec := "fnExactLongestRest", unfollowed := true, recurses := true, apart := false }
def FnExactLongestRestSaid : Prop := fnExactLongestRestRow.holds Try.pinned (OpenSpec.ofChange fnExactLongestRestSpec)

/-- ITS FALSE NEIGHBOUR: 'it returns false'. Refute it at one input. -/
def fnExactLongestRestWrong : ChangeSpec := { name := "fnExactLongestRest", fn := fun _ => fun
  | [d1, d2] => { results := [.lit (.bool false)], args := [d1, d2] }
  | _ => none }
def FnExactLongestRestWrongFalsely : Prop := fnExactLongestRestRow.holds Try.pinned (OpenSpec.ofChange fnExactLongestRestWrong)

/-- 'laws.FnExactBestCut': WHATEVER THE INPUT: true; the input reads as it did. -/
def fnExactBestCutSpec : ChangeSpec := { name := "fnExactBestCut", fn := fun _ => fun
  | [d1, d2] => { results := [.lit (.bool true)], args := [d1, d2] }
  | _ => none }
def fnExactBestCutRow : OpenClaim := { program := "ytmgnloojcnoffaa", sum := "e4be5940b1d172ec19f5e4aa59b0ae2db29d8a273d3ea0936ce76d1500b2bf68", func := "loop.example/g01044/laws.FnExactBestCut", spec := "fnExactBestCut", unfollowed := true, recurses := true, apart := false }
def FnExactBestCutSaid : Prop := fnExactBestCutRow.holds Try.pinned (OpenSpec.ofChange fnExactBestCutSpec)

/-- ITS FALSE NEIGHBOUR: 'it returns false'. Refute it at one input. -/
def fnExactBestCutWrong : ChangeSpec := { name := "fnExactBestCut", fn := fun _ => fun
  | [d1, d2] => { results := [.lit (.bool false)], args := [d1, d2] }
  | _ => none }
def FnExactBestCutWrongFalsely : Prop := fnExactBestCutRow.holds Try.pinned (OpenSpec.ofChange fnExactBestCutWrong)

/-- 'laws.FnCoilCuts': WHATEVER THE INPUT: true; the input reads as it did. -/
def fnCoilCutsSpec : ChangeSpec := { name := "fnCoilCuts", fn := fun _ => fun
  | [d] => { results := [.lit (.bool true)], args := [d] }
  | _ => none }
def fnCoilCutsRow : OpenClaim := { program := "ytmgnloojcnoffaa", sum := "e4be5940b1d172ec19f5e4aa59b0ae2db29d8a273d3ea0936ce76d1500b2bf68", func := "loop.example/g01044/laws.FnCoilCuts", spec := "fnCoilCuts", unfollowed := true, recurses := true, apart := false }
def FnCoilCutsSaid : Prop := fnCoilCutsRow.holds Try.pinned (OpenSpec.ofChange fnCoilCutsSpec)

/-- ITS FALSE NEIGHBOUR: 'it returns false'. Refute it at one input. -/
def fnCoilCutsWrong : ChangeSpec := { name := "fnCoilCuts", fn := fun _ => fun
  | [d] => { results := [.lit (.bool false)], args := [d] }
  | _ => none }
def FnCoilCutsWrongFalsely : Prop := fnCoilCutsRow.holds Try.pinned (OpenSpec.ofChange fnCoilCutsWrong)

/- THE SECOND FORM. 'bulk': how many values and letters a reading holds, each counted each time it is reached (what is shared counts as often as it is met; a slice's spare places count too). A statement '..UptoSaid' is the law's where the arguments, and the package variables that the reading takes, are together of bulk at most 1048576: NARROWER than '..Said'. Prove '..Said' where nothing that the law and all that it calls make is longer than what came in: it says more and counts as full. Else prove '..UptoSaid'. A law counts once. -/
mutual
def uptoBulk {H : Type} : DataW H → Nat
  | .lit (.string bytes) => bytes.length + 1
  | .lit _ => 1
  | .nil => 1
  | .ptr d => uptoBulk d + 1
  | .slice elems spare => uptoBulkAll elems + uptoBulkAll spare + 1
  | .agg parts => uptoBulkAll parts + 1
  | .iface _ d => uptoBulk d + 1
  | .map entries => uptoBulkEntries entries + 1
  | .held _ => 1
def uptoBulkAll {H : Type} : List (DataW H) → Nat
  | [] => 0
  | d :: r => uptoBulk d + uptoBulkAll r
def uptoBulkEntries {H : Type} : List (Lit × DataW H) → Nat
  | [] => 0
  | x :: r => uptoBulkEntry x + uptoBulkEntries r
def uptoBulkEntry {H : Type} : Lit × DataW H → Nat
  | (.string bytes, d) => bytes.length + uptoBulk d + 1
  | (_, d) => uptoBulk d + 1
 end
def uptoSmall : (H : Type) → List (DataW H) → Bool := fun _ ds => decide (uptoBulkAll ds ≤ 1048576)
def OpenSpec.upto (s : _root_.Go.ChangeSpec) : _root_.Go.OpenSpec := { _root_.Go.OpenSpec.ofChange s with cond := some uptoSmall }

/-- 'laws.FnExactLongestRest', WHERE WHAT IT READS IS OF BULK AT MOST 1048576: true; the input reads as it did. -/
def fnExactLongestRestUptoRow : OpenClaim := { program := "ytmgnloojcnoffaa", sum := "e4be5940b1d172ec19f5e4aa59b0ae2db29d8a273d3ea0936ce76d1500b2bf68", func := "loop.example/g01044/laws.FnExactLongestRest", spec := "fnExactLongestRest", unfollowed := true, recurses := true, apart := false, narrowed := true }
def FnExactLongestRestUptoSaid : Prop := fnExactLongestRestUptoRow.holds Try.pinned (OpenSpec.upto fnExactLongestRestSpec)

/-- 'laws.FnExactBestCut', WHERE WHAT IT READS IS OF BULK AT MOST 1048576: true; the input reads as it did. -/
def fnExactBestCutUptoRow : OpenClaim := { program := "ytmgnloojcnoffaa", sum := "e4be5940b1d172ec19f5e4aa59b0ae2db29d8a273d3ea0936ce76d1500b2bf68", func := "loop.example/g01044/laws.FnExactBestCut", spec := "fnExactBestCut", unfollowed := true, recurses := true, apart := false, narrowed := true }
def FnExactBestCutUptoSaid : Prop := fnExactBestCutUptoRow.holds Try.pinned (OpenSpec.upto fnExactBestCutSpec)

/-- 'laws.FnCoilCuts', WHERE WHAT IT READS IS OF BULK AT MOST 1048576: true; the input reads as it did. -/
def fnCoilCutsUptoRow : OpenClaim := { program := "ytmgnloojcnoffaa", sum := "e4be5940b1d172ec19f5e4aa59b0ae2db29d8a273d3ea0936ce76d1500b2bf68", func := "loop.example/g01044/laws.FnCoilCuts", spec := "fnCoilCuts", unfollowed := true, recurses := true, apart := false, narrowed := true }
def FnCoilCutsUptoSaid : Prop := fnCoilCutsUptoRow.holds Try.pinned (OpenSpec.upto fnCoilCutsSpec)

end Rows
end Go.Proofs.Ytmgnloojcnoffaa
