/- Small lemmas about words of 64 bits, used where a statement draws its inputs. No condition. -/
import Derived.Laws.BitsAllLaws
import Derived.Test.YtifdihbndlmgpaaGreatDoorLib
namespace Go.Proofs.YtifdihbndlmgpaaGreatDoor.Lib
open Go.RowKit Go.Proofs.YtifdihbndlmgpaaGreatDoorW.PrintWords Go.Proofs.YtifdihbndlmgpaaGreatDoorW.PrintMore
theorem u64_bd (x:Int):0≤IntKind.u64.wrap x∧IntKind.u64.wrap x<18446744073709551616:=by
  have:IntKind.u64.wrap x=x % 18446744073709551616:=by simp[IntKind.wrap,IntKind.bits,IntKind.signed]
  rw[this];omega
theorem and255 (x:Int):0≤Go.bits .and .u64 (IntKind.u64.wrap x / 1099511627776) 255∧Go.bits .and .u64 (IntKind.u64.wrap x / 1099511627776) 255≤255:=by
  have h:=u64_bd x
  rw[u64_and _ _ (by omega) (by omega) (by omega) (by omega)]
  have:(IntKind.u64.wrap x / 1099511627776).toNat &&& (255:Int).toNat≤255:=Nat.and_le_right
  omega
def Sr (c:List Int) (at_:Int) (n:Nat):Prop:=(∀x∈c,0≤x∧x≤255)∧0≤at_∧at_+n≤4611686018427387904
theorem Sr.less {c:List Int} {a:Int} {n m:Nat} (h:Sr c a n) (hm:m≤n):Sr c a m:=⟨h.1,h.2.1,by have:=h.2.2;omega⟩
theorem Sr.start {c:List Int} (h: ∀x∈c,(Lit.int .u8 x).wf=true):Sr c 0 4611686018427387904:=by
  refine⟨fun x hx=>?_,by omega,by omega⟩
  have:=h x hx
  simp[Lit.wf,IntKind.min,IntKind.max,IntKind.bits,IntKind.signed]at this
  omega
end Go.Proofs.YtifdihbndlmgpaaGreatDoor.Lib
