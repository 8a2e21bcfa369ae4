-- Cut down by a program, from the word texts that the kit laid for this seat: what the claim does not name is left out.
import Derived.Test.YtacijlpnpkhjaaaDoorVInv
import Derived.Test.YtacijlpnpkhjaaaDoorVFootNe
namespace Go.Proofs.YtacijlpnpkhjaaaDoorW.PrintWords
open Go.RowKit
end Go.Proofs.YtacijlpnpkhjaaaDoorW.PrintWords
namespace Go.Proofs.YtacijlpnpkhjaaaDoorW.PrintLast
section
variable {ops : Array Oper} {a : Act} {o og : Oper} {g : Nat} {t : Tmp} {u : Bool}
end
end Go.Proofs.YtacijlpnpkhjaaaDoorW.PrintLast
