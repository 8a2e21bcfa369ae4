-- Cut down by a program, from the word texts that the kit laid for this seat: what the claim does not name is left out.
import Derived.Test.YtifdihbndlmgpaaGreatDoorVInv
import Derived.Test.YtifdihbndlmgpaaGreatDoorVFootNe
namespace Go.Proofs.YtifdihbndlmgpaaGreatDoorW.PrintWords
open Go.RowKit
end Go.Proofs.YtifdihbndlmgpaaGreatDoorW.PrintWords
namespace Go.Proofs.YtifdihbndlmgpaaGreatDoorW.PrintLast
section
variable {ops:Array Oper} {a:Act} {o og:Oper} {g:Nat} {t:Tmp} {u:Bool}
end
end Go.Proofs.YtifdihbndlmgpaaGreatDoorW.PrintLast
