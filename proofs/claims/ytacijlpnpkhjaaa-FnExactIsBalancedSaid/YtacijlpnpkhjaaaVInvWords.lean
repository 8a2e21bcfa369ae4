-- Cut down by a program, from the word texts that the kit laid for this seat: what the claim does not name is left out.
import Derived.Test.YtacijlpnpkhjaaaVInv
import Derived.Test.YtacijlpnpkhjaaaVFootNe
namespace Go.Proofs.YtacijlpnpkhjaaaW.PrintWords
open Go.RowKit
end Go.Proofs.YtacijlpnpkhjaaaW.PrintWords
namespace Go.Proofs.YtacijlpnpkhjaaaW.PrintLast
section
variable {ops : Array Oper} {a : Act} {o og : Oper} {g : Nat} {t : Tmp} {u : Bool}
end
end Go.Proofs.YtacijlpnpkhjaaaW.PrintLast
