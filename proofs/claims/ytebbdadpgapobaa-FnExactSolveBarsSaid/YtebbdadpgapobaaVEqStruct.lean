-- Cut down by a program, from the word texts that the kit laid for this seat: what the claim does not name is left out.
import Derived.Test.YtebbdadpgapobaaVWords
import Derived.Laws.StructEq
/-! ### 53. '==' of structs as_ one Bool -/
namespace Go.Proofs.YtebbdadpgapobaaW.PrintWords
open Go.RowKit
section
variable {P:Program} {d:Nat} {xs ys:Array Value} {f:Field} {fs:List Field} {a b:Value} {r s:Bool} {w:World}
end
end Go.Proofs.YtebbdadpgapobaaW.PrintWords
