-- Cut down by a program, from the word texts that the kit laid for this seat: what the claim does not name is left out.
import Derived.Test.YtebbdadpgapobaaVTab
/-! ### 56. Four, five, six operations that may come up next, in any order -/
namespace Go.Proofs.YtebbdadpgapobaaW.PrintLast
section
variable {P:Program} {ops:Array Oper} {Q:Exit→Act→World→Prop} {md:Region.Mode} {S:World→Prop} {ds:List Nat} {T:Bool×List (List Nat×List Nat)}
end
end Go.Proofs.YtebbdadpgapobaaW.PrintLast
