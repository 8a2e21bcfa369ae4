-- Cut down by a program, from the word texts that the kit laid for this seat: what the claim does not name is left out.
import Derived.Test.YtcjandlemjfojaaGreatDoorVInv
import Derived.Test.YtcjandlemjfojaaGreatDoorVFootNe
namespace Go.Proofs.YtcjandlemjfojaaGreatDoorW.PrintWords
open Go.RowKit
end Go.Proofs.YtcjandlemjfojaaGreatDoorW.PrintWords
namespace Go.Proofs.YtcjandlemjfojaaGreatDoorW.PrintLast
section
variable {ops : Array Oper} {a : Act} {o og : Oper} {g : Nat} {t : Tmp} {u : Bool}
end
end Go.Proofs.YtcjandlemjfojaaGreatDoorW.PrintLast
