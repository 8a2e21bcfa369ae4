/-
  No cell of these rows narrows 'for every input' (looked for: loops, veiled, ifaces, maps, wideKeys, modest, calm, conditions, laid).
  DERIVED. THE GIVEN ROWS OF THIS SEAT. 4 by the template 'for every input the law returns true; each argument reads behind the call as it read before'; 0 by the template 'total and deterministic' (their statements: YtebbdadpgapobaaTotals.lean).
  GIVEN WITH THE SEED: the statements are not yours to turn. If you find one false, say at which input.
  Laid BY PROGRAM, IN A SANDBOX (cutbox-rows.mjs): the forced cells as the released guide's own fill.sh prints them over the translation 4bd1962d81245fe1… (all of the seat's roots in one cut). By AI agents, Wed Nov 11 2026. No macro, syntax, notation, axiom, sorry.
-/
import Derived.Test.YtebbdadpgapobaaChecked
import GoSem.Claim
import GoSem.ClaimJoined
import GoSem.ClaimMapViews
import Derived.JoinedTies
import Derived.KernelRfl
namespace Go.Proofs.Ytebbdadpgapobaa
/- THE CELL 'sum', in the pinned program and in every row, IS THE sha256 OF THE DUMP (.gsa) THAT YtebbdadpgapobaaProg.lean LOADS. Nothing in Lean hashes anything: it is a label: what it is worth is what the hold of that sum in a sandbox is worth. -/
noncomputable def Try.pinned : Pinned := { name := "ytebbdadpgapobaa", sum := "4bd1962d81245fe1c50a297b6eed4874931a430d85b1b63d0f771f5b87615a6e", checked := Try.checked }
namespace Rows
def none {H : Type} : Left H := { results := [], args := [] }

/-- 'laws.FnExactRankOf': WHATEVER THE INPUT: true; the input reads as it did. -/
def fnExactRankOfSpec : ChangeSpec := { name := "fnExactRankOf", fn := fun _ => fun
  | [d1, d2] => { results := [.lit (.bool true)], args := [d1, d2] }
  | _ => none }
def fnExactRankOfRow : OpenClaim := { program := "ytebbdadpgapobaa", sum := "4bd1962d81245fe1c50a297b6eed4874931a430d85b1b63d0f771f5b87615a6e", func := "loop.example/g01044/laws.FnExactRankOf", spec := "fnExactRankOf", apart := false }
def FnExactRankOfSaid : Prop := fnExactRankOfRow.holds Try.pinned (OpenSpec.ofChange fnExactRankOfSpec)

/-- ITS FALSE NEIGHBOUR: 'it returns false'. Refute it at one input. -/
def fnExactRankOfWrong : ChangeSpec := { name := "fnExactRankOf", fn := fun _ => fun
  | [d1, d2] => { results := [.lit (.bool false)], args := [d1, d2] }
  | _ => none }
def FnExactRankOfWrongFalsely : Prop := fnExactRankOfRow.holds Try.pinned (OpenSpec.ofChange fnExactRankOfWrong)

/-- 'laws.FnExactIsStiff': WHATEVER THE INPUT: true; the input reads as it did. -/
def fnExactIsStiffSpec : ChangeSpec := { name := "fnExactIsStiff", fn := fun _ => fun
  | [d1, d2] => { results := [.lit (.bool true)], args := [d1, d2] }
  | _ => none }
def fnExactIsStiffRow : OpenClaim := { program := "ytebbdadpgapobaa", sum := "4bd1962d81245fe1c50a297b6eed4874931a430d85b1b63d0f771f5b87615a6e", func := "loop.example/g01044/laws.FnExactIsStiff", spec := "fnExactIsStiff", apart := false }
def FnExactIsStiffSaid : Prop := fnExactIsStiffRow.holds Try.pinned (OpenSpec.ofChange fnExactIsStiffSpec)

/-- ITS FALSE NEIGHBOUR: 'it returns false'. Refute it at one input. -/
def fnExactIsStiffWrong : ChangeSpec := { name := "fnExactIsStiff", fn := fun _ => fun
  | [d1, d2] => { results := [.lit (.bool false)], args := [d1, d2] }
  | _ => none }
def FnExactIsStiffWrongFalsely : Prop := fnExactIsStiffRow.holds Try.pinned (OpenSpec.ofChange fnExactIsStiffWrong)

/-- 'laws.FnExactSolveBars': WHATEVER THE INPUT: true; the input reads as it did. -/
def fnExactSolveBarsSpec : ChangeSpec := { name := "fnExactSolveBars", fn := fun _ => fun
  | [d1, d2, d3] => { results := [.lit (.bool true)], args := [d1, d2, d3] }
  | _ => none }
def fnExactSolveBarsRow : OpenClaim := { program := "ytebbdadpgapobaa", sum := "4bd1962d81245fe1c50a297b6eed4874931a430d85b1b63d0f771f5b87615a6e", func := "loop.example/g01044/laws.FnExactSolveBars", spec := "fnExactSolveBars", apart := false }
def FnExactSolveBarsSaid : Prop := fnExactSolveBarsRow.holds Try.pinned (OpenSpec.ofChange fnExactSolveBarsSpec)

/-- ITS FALSE NEIGHBOUR: 'it returns false'. Refute it at one input. -/
def fnExactSolveBarsWrong : ChangeSpec := { name := "fnExactSolveBars", fn := fun _ => fun
  | [d1, d2, d3] => { results := [.lit (.bool false)], args := [d1, d2, d3] }
  | _ => none }
def FnExactSolveBarsWrongFalsely : Prop := fnExactSolveBarsRow.holds Try.pinned (OpenSpec.ofChange fnExactSolveBarsWrong)

/-- 'laws.FnBalance': WHATEVER THE INPUT: true; the input reads as it did. -/
def fnBalanceSpec : ChangeSpec := { name := "fnBalance", fn := fun _ => fun
  | [d] => { results := [.lit (.bool true)], args := [d] }
  | _ => none }
def fnBalanceRow : OpenClaim := { program := "ytebbdadpgapobaa", sum := "4bd1962d81245fe1c50a297b6eed4874931a430d85b1b63d0f771f5b87615a6e", func := "loop.example/g01044/laws.FnBalance", spec := "fnBalance", apart := false }
def FnBalanceSaid : Prop := fnBalanceRow.holds Try.pinned (OpenSpec.ofChange fnBalanceSpec)

/-- ITS FALSE NEIGHBOUR: 'it returns false'. Refute it at one input. -/
def fnBalanceWrong : ChangeSpec := { name := "fnBalance", fn := fun _ => fun
  | [d] => { results := [.lit (.bool false)], args := [d] }
  | _ => none }
def FnBalanceWrongFalsely : Prop := fnBalanceRow.holds Try.pinned (OpenSpec.ofChange fnBalanceWrong)

/- THE SECOND FORM. 'bulk': how many values and letters a reading holds, each counted each time it is reached (what is shared counts as often as it is met; a slice's spare places count too). A statement '..UptoSaid' is the law's where the arguments, and the package variables that the reading takes, are together of bulk at most 1048576: NARROWER than '..Said'. Prove '..Said' where nothing that the law and all that it calls make is longer than what came in: it says more and counts as full. Else prove '..UptoSaid'. A law counts once. -/
mutual
def uptoBulk {H : Type} : DataW H → Nat
  | .lit (.string bytes) => bytes.length + 1
  | .lit _ => 1
  | .nil => 1
  | .ptr d => uptoBulk d + 1
  | .slice elems spare => uptoBulkAll elems + uptoBulkAll spare + 1
  | .agg parts => uptoBulkAll parts + 1
  | .iface _ d => uptoBulk d + 1
  | .map entries => uptoBulkEntries entries + 1
  | .held _ => 1
def uptoBulkAll {H : Type} : List (DataW H) → Nat
  | [] => 0
  | d :: r => uptoBulk d + uptoBulkAll r
def uptoBulkEntries {H : Type} : List (Lit × DataW H) → Nat
  | [] => 0
  | x :: r => uptoBulkEntry x + uptoBulkEntries r
def uptoBulkEntry {H : Type} : Lit × DataW H → Nat
  | (.string bytes, d) => bytes.length + uptoBulk d + 1
  | (_, d) => uptoBulk d + 1
 end
def uptoSmall : (H : Type) → List (DataW H) → Bool := fun _ ds => decide (uptoBulkAll ds ≤ 1048576)
def OpenSpec.upto (s : _root_.Go.ChangeSpec) : _root_.Go.OpenSpec := { _root_.Go.OpenSpec.ofChange s with cond := some uptoSmall }

/-- 'laws.FnExactRankOf', WHERE WHAT IT READS IS OF BULK AT MOST 1048576: true; the input reads as it did. -/
def fnExactRankOfUptoRow : OpenClaim := { program := "ytebbdadpgapobaa", sum := "4bd1962d81245fe1c50a297b6eed4874931a430d85b1b63d0f771f5b87615a6e", func := "loop.example/g01044/laws.FnExactRankOf", spec := "fnExactRankOf", apart := false, narrowed := true }
def FnExactRankOfUptoSaid : Prop := fnExactRankOfUptoRow.holds Try.pinned (OpenSpec.upto fnExactRankOfSpec)

/-- 'laws.FnExactIsStiff', WHERE WHAT IT READS IS OF BULK AT MOST 1048576: true; the input reads as it did. -/
def fnExactIsStiffUptoRow : OpenClaim := { program := "ytebbdadpgapobaa", sum := "4bd1962d81245fe1c50a297b6eed4874931a430d85b1b63d0f771f5b87615a6e", func := "loop.example/g01044/laws.FnExactIsStiff", spec := "fnExactIsStiff", apart := false, narrowed := true }
def FnExactIsStiffUptoSaid : Prop := fnExactIsStiffUptoRow.holds Try.pinned (OpenSpec.upto fnExactIsStiffSpec)

/-- 'laws.FnExactSolveBars', WHERE WHAT IT READS IS OF BULK AT MOST 1048576: true; the input reads as it did. -/
def fnExactSolveBarsUptoRow : OpenClaim := { program := "ytebbdadpgapobaa", sum := "4bd1962d81245fe1c50a297b6eed4874931a430d85b1b63d0f771f5b87615a6e", func := "loop.example/g01044/laws.FnExactSolveBars", spec := "fnExactSolveBars", apart := false, narrowed := true }
def FnExactSolveBarsUptoSaid : Prop := fnExactSolveBarsUptoRow.holds Try.pinned (OpenSpec.upto fnExactSolveBarsSpec)

/-- 'laws.FnBalance', WHERE WHAT IT READS IS OF BULK AT MOST 1048576: true; the input reads as it did. -/
def fnBalanceUptoRow : OpenClaim := { program := "ytebbdadpgapobaa", sum := "4bd1962d81245fe1c50a297b6eed4874931a430d85b1b63d0f771f5b87615a6e", func := "loop.example/g01044/laws.FnBalance", spec := "fnBalance", apart := false, narrowed := true }
def FnBalanceUptoSaid : Prop := fnBalanceUptoRow.holds Try.pinned (OpenSpec.upto fnBalanceSpec)

end Rows
end Go.Proofs.Ytebbdadpgapobaa
