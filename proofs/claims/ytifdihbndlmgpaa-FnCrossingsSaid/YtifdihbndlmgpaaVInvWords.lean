-- Cut down by a program, from the word texts that the kit laid for this seat: what the claim does not name is left out.
import Derived.Test.YtifdihbndlmgpaaVInv
import Derived.Test.YtifdihbndlmgpaaVFootNe
namespace Go.Proofs.YtifdihbndlmgpaaW.PrintWords
open Go.RowKit
end Go.Proofs.YtifdihbndlmgpaaW.PrintWords
namespace Go.Proofs.YtifdihbndlmgpaaW.PrintLast
section
variable {ops : Array Oper} {a : Act} {o og : Oper} {g : Nat} {t : Tmp} {u : Bool}
end
end Go.Proofs.YtifdihbndlmgpaaW.PrintLast
