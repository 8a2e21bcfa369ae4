-- Cut down by a program, from the word texts that the kit laid for this seat: what the claim does not name is left out.
import Derived.Test.YtdhdokhfgadikaaVInv
import Derived.Test.YtdhdokhfgadikaaVFootNe
namespace Go.Proofs.YtdhdokhfgadikaaW.PrintWords
open Go.RowKit
end Go.Proofs.YtdhdokhfgadikaaW.PrintWords
namespace Go.Proofs.YtdhdokhfgadikaaW.PrintLast
section
variable {ops : Array Oper} {a : Act} {o og : Oper} {g : Nat} {t : Tmp} {u : Bool}
end
end Go.Proofs.YtdhdokhfgadikaaW.PrintLast
