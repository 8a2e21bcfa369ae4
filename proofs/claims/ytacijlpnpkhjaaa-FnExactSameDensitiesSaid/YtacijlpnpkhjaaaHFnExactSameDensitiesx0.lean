-- Written by a program for this claim (the functions that the statement reaches, and that the program's code comes to them).
import Derived.Test.YtacijlpnpkhjaaaProg
import Derived.Below
import Derived.Deep.Draws
import Derived.Deep.AppendLies
import Derived.Maps.AppendAt
import Derived.OwnWalk
import Derived.Laws.BytesArg
import Derived.Laws.MakeOwn
import Derived.Laws.OwnMore
import Derived.Deep.OwnRows
import Derived.Tactics
import Derived.Lib.ConvBytes
import Derived.Laws.Slices
import Derived.WalkKit
import Derived.KernelRfl
import Derived.RowKit3
import Derived.Deep.LoopGhost
import Derived.Deep.QuietTactic
import Derived.BigQuiet
import Derived.WideLaws
import Derived.Deep.DeepCutAuto
import Derived.Deep.CutBlock
import Derived.Deep.RegionHeld3
import Derived.Laws.Rows
import Derived.Lib.AppendStr
import Derived.ArgAppend
import Derived.Laws.IdiomCopy
import Derived.OrdersHeld
import Derived.Laws.BitsLemmas
import Derived.RowKit
import Derived.Test.YtacijlpnpkhjaaaWWords
import Derived.Test.YtacijlpnpkhjaaaWLast
import Derived.Test.YtacijlpnpkhjaaaWTab
import Derived.Test.YtacijlpnpkhjaaaWFour
import Derived.Test.YtacijlpnpkhjaaaWQPut
import Derived.Test.YtacijlpnpkhjaaaWApart
import Derived.Test.YtacijlpnpkhjaaaWArr
import Derived.Test.YtacijlpnpkhjaaaWZeros
import Derived.Test.YtacijlpnpkhjaaaWFoot
import Derived.Test.YtacijlpnpkhjaaaWKept
import Derived.Test.YtacijlpnpkhjaaaWShare
import Derived.Test.YtacijlpnpkhjaaaWN
import Derived.Test.YtacijlpnpkhjaaaWFootNe
import Derived.Test.YtacijlpnpkhjaaaWAt
import Derived.Test.YtacijlpnpkhjaaaWEqStruct
import Derived.Test.YtacijlpnpkhjaaaWRepsOne
import Derived.Test.YtacijlpnpkhjaaaWInv
import Derived.Test.YtacijlpnpkhjaaaWInvWords
import Derived.Test.YtacijlpnpkhjaaaWGuard
import Derived.Test.YtacijlpnpkhjaaaWNEv
import Derived.Test.YtacijlpnpkhjaaaWMore
namespace Go.Proofs.Ytacijlpnpkhjaaa.HFnExactSameDensities
open Go.RowKit Go.Proofs.YtacijlpnpkhjaaaW.PrintWords Go.Proofs.YtacijlpnpkhjaaaW.PrintLast Go.Proofs.YtacijlpnpkhjaaaW.PrintMore
attribute [local go_sem] max2_int min2_int max_two min_two max_three min_three max_four min_four   -- for this text's walks alone
set_option linter.unusedVariables false
set_option linter.unusedSimpArgs false



def errW : Option Int → Value
  | none => .nilIface
  | some c => .iface 0 (.int .i64 c)
theorem errW_none : errW none = .nilIface := rfl
theorem errW_some (c : Int) : errW (some c) = .iface 0 (.int .i64 c) := rfl

theorem info2 : (Try.prog.info? 2).map (fun i => (i.zero, i.size, i.bytes)) = some (some (.int .i64 0), 1, 8) := by kernel_rfl
-- the values' own types

end Go.Proofs.Ytacijlpnpkhjaaa.HFnExactSameDensities
