-- Cut down by a program, from the word texts that the kit laid for this seat: what the claim does not name is left out.
import Derived.Test.YtebbdadpgapobaaVInv
import Derived.Test.YtebbdadpgapobaaVFootNe
namespace Go.Proofs.YtebbdadpgapobaaW.PrintWords
open Go.RowKit
end Go.Proofs.YtebbdadpgapobaaW.PrintWords
namespace Go.Proofs.YtebbdadpgapobaaW.PrintLast
section
variable {ops:Array Oper} {a:Act} {o og:Oper} {g:Nat} {t:Tmp} {u:Bool}
end
end Go.Proofs.YtebbdadpgapobaaW.PrintLast
