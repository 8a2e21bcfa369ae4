-- Written by a program for this claim (the functions that the statement reaches, and that the program's code comes to them).
import Derived.Test.YtifdihbndlmgpaaGreatDoorProg
import Derived.Test.YtifdihbndlmgpaaGreatDoorShelf
import Derived.Test.YtifdihbndlmgpaaGreatDoorSq
import Derived.Below
import Derived.Deep.Draws
import Derived.Deep.AppendLies
import Derived.Maps.AppendAt
import Derived.OwnWalk
import Derived.Laws.BytesArg
import Derived.Laws.MakeOwn
import Derived.Laws.OwnMore
import Derived.Deep.OwnRows
import Derived.Tactics
import Derived.Lib.ConvBytes
import Derived.Laws.Slices
import Derived.WalkKit
import Derived.KernelRfl
import Derived.RowKit3
import Derived.Deep.LoopGhost
import Derived.Deep.QuietTactic
import Derived.BigQuiet
import Derived.WideLaws
import Derived.Deep.DeepCutAuto
import Derived.Deep.CutBlock
import Derived.Deep.RegionHeld3
import Derived.Laws.Rows
import Derived.Lib.AppendStr
import Derived.ArgAppend
import Derived.Laws.IdiomCopy
import Derived.OrdersHeld
import Derived.Laws.BitsLemmas
import Derived.RowKit
import Derived.Lib.SmallJoins
import Derived.Test.YtifdihbndlmgpaaGreatDoorAny
import Derived.Test.YtifdihbndlmgpaaGreatDoorVWords
import Derived.Test.YtifdihbndlmgpaaGreatDoorVLast
import Derived.Test.YtifdihbndlmgpaaGreatDoorVTab
import Derived.Test.YtifdihbndlmgpaaGreatDoorVFour
import Derived.Test.YtifdihbndlmgpaaGreatDoorVQPut
import Derived.Test.YtifdihbndlmgpaaGreatDoorVApart
import Derived.Test.YtifdihbndlmgpaaGreatDoorVArr
import Derived.Test.YtifdihbndlmgpaaGreatDoorVZeros
import Derived.Test.YtifdihbndlmgpaaGreatDoorVFoot
import Derived.Test.YtifdihbndlmgpaaGreatDoorVKept
import Derived.Test.YtifdihbndlmgpaaGreatDoorVShare
import Derived.Test.YtifdihbndlmgpaaGreatDoorVN
import Derived.Test.YtifdihbndlmgpaaGreatDoorVFootNe
import Derived.Test.YtifdihbndlmgpaaGreatDoorVAt
import Derived.Test.YtifdihbndlmgpaaGreatDoorVEqStruct
import Derived.Test.YtifdihbndlmgpaaGreatDoorVRepsOne
import Derived.Test.YtifdihbndlmgpaaGreatDoorVInv
import Derived.Test.YtifdihbndlmgpaaGreatDoorVInvWords
import Derived.Test.YtifdihbndlmgpaaGreatDoorVGuard
import Derived.Test.YtifdihbndlmgpaaGreatDoorVNEv
import Derived.Test.YtifdihbndlmgpaaGreatDoorVMore
namespace Go.Proofs.YtifdihbndlmgpaaGreatDoor.HWys
open Go.RowKit Go.Proofs.YtifdihbndlmgpaaGreatDoorW.PrintWords Go.Proofs.YtifdihbndlmgpaaGreatDoorW.PrintLast Go.Proofs.YtifdihbndlmgpaaGreatDoorW.PrintMore
attribute [local go_sem] max2_int min2_int max_two min_two max_three min_three max_four min_four
set_option linter.unusedVariables false
set_option linter.unusedSimpArgs false
def errW:Option Int→Value
  |none=>.nilIface
  |some c=>.iface 0 (.int .i64 c)
theorem errW_none:errW none= .nilIface:=rfl
theorem errW_some (c:Int):errW (some c)= .iface 0 (.int .i64 c):=rfl
theorem info2:(Tryz.prog.info? 2).map (fun i=>(i.zero,i.size,i.bytes))=some (some (.int .i64 0),1,8):=by kernel_rfl
theorem info5:(Tryz.prog.info? 5).map (fun i=>(i.zero,i.size,i.bytes))=some (some (.int .u8 0),1,1):=by kernel_rfl
theorem info9:(Tryz.prog.info? 9).map (fun i=>(i.zero,i.size,i.bytes))=some (some (.string ⟨#[]⟩),1,16):=by kernel_rfl
theorem info25:(Tryz.prog.info? 25).map (fun i=>(i.zero,i.size,i.bytes))=some (some (.agg #[(.int .i64 0),(.int .i64 0),(.bool false)]),3,24):=by kernel_rfl
theorem info51:(Tryz.prog.info? 51).map (fun i=>(i.zero,i.size,i.bytes))=some (some (.agg #[(.int .i64 0),(.int .i64 0)]),2,16):=by kernel_rfl
theorem info61:(Tryz.prog.info? 61).map (fun i=>(i.zero,i.size,i.bytes))=some (some (.agg #[(.int .i64 0),(.int .i64 0)]),2,16):=by kernel_rfl
theorem info62:(Tryz.prog.info? 62).map (fun i=>(i.zero,i.size,i.bytes))=some (some (.slice none 0 0),1,24):=by kernel_rfl
/-! #### struct type 51 -/
structure S51 where
  f0:Int
  f1:Int
def z51:S51:=⟨(0:Int),(0:Int)⟩
def k51:Kd S51:=Kd.iso (Kd.pair (Kd.int .i64) (Kd.int .i64)) (fun x:S51=>(x.f0,x.f1))
theorem k51_heap:Kd.Heap k51:=Kd.heap_iso _ (Kd.heap_pair (Kd.heap_int .i64) (Kd.heap_int .i64))
theorem k51_open {w:World} {x:S51} {cs:List Value} (h:k51.K w x cs):cs= [.int .i64 x.f0,.int .i64 x.f1]:=by
  obtain⟨_,_,rfl,rfl,rfl⟩:=h
  exact rfl
theorem k51_openM {w:World} {base:Nat} {ok:Nat→Prop} {x:S51} {cs:List Value} (h:k51.M w base ok x cs):cs= [.int .i64 x.f0,.int .i64 x.f1]:=by
  obtain⟨_,_,rfl,rfl,rfl⟩:=h
  exact rfl
theorem k51_mk (w:World) (x:S51):k51.K w x [.int .i64 x.f0,.int .i64 x.f1]:=⟨[.int .i64 x.f0],[.int .i64 x.f1],rfl,rfl,rfl⟩
theorem k51_mkM (w:World) (base:Nat) (ok:Nat→Prop) (x:S51):k51.M w base ok x [.int .i64 x.f0,.int .i64 x.f1]:=⟨[.int .i64 x.f0],[.int .i64 x.f1],rfl,rfl,rfl⟩
def rd_T51 (xs:List S51) (i:Int):S51:=xs.getD i.toNat z51
theorem at_T51 {w:World} {A:Option Addr} {n:Nat} {xs:List S51} (h:Kd.C k51 w A n xs) (i:Int) (h0:0≤i) (h1:i<n): ∃ad,A=some ad∧w.cell? (ad.add (i.toNat*2))=some (.int .i64 (rd_T51 xs i).f0)∧w.cell? ⟨(ad.add (i.toNat*2)).block,(ad.add (i.toNat*2)).off+1,none⟩=some (.int .i64 (rd_T51 xs i).f1):=by
  obtain⟨ad,c,e,_,hK,aA⟩:=Kd.C_get h z51 i h0 h1
  have hc: ∀j u,c[j]? =some u→w.cell? (ad.add (i.toNat*2+j))=some u:=aA
  obtain rfl:=k51_open hK
  exact⟨ad,e,hc 0 _ rfl,by rw[← add_field _ _ 1 (by omega)];exact hc 1 _ rfl⟩
/-! #### struct type 25 -/
structure S25 where
  f0:Int
  f1:Int
  f2:Bool
def z25:S25:=⟨(0:Int),(0:Int),false⟩
def k25:Kd S25:=Kd.iso (Kd.pair (Kd.int .i64) (Kd.pair (Kd.int .i64) Kd.bool)) (fun x:S25=>(x.f0,x.f1,x.f2))
theorem k25_heap:Kd.Heap k25:=Kd.heap_iso _ (Kd.heap_pair (Kd.heap_int .i64) (Kd.heap_pair (Kd.heap_int .i64) Kd.heap_bool))
theorem k25_open {w:World} {x:S25} {cs:List Value} (h:k25.K w x cs):cs= [.int .i64 x.f0,.int .i64 x.f1,.bool x.f2]:=by
  obtain⟨_,_,rfl,rfl,⟨_,_,rfl,rfl,rfl⟩⟩:=h
  exact rfl
theorem k25_openM {w:World} {base:Nat} {ok:Nat→Prop} {x:S25} {cs:List Value} (h:k25.M w base ok x cs):cs= [.int .i64 x.f0,.int .i64 x.f1,.bool x.f2]:=by
  obtain⟨_,_,rfl,rfl,⟨_,_,rfl,rfl,rfl⟩⟩:=h
  exact rfl
theorem k25_mk (w:World) (x:S25):k25.K w x [.int .i64 x.f0,.int .i64 x.f1,.bool x.f2]:=⟨[.int .i64 x.f0],[.int .i64 x.f1,.bool x.f2],rfl,rfl,⟨[.int .i64 x.f1],[.bool x.f2],rfl,rfl,rfl⟩⟩
theorem k25_mkM (w:World) (base:Nat) (ok:Nat→Prop) (x:S25):k25.M w base ok x [.int .i64 x.f0,.int .i64 x.f1,.bool x.f2]:=⟨[.int .i64 x.f0],[.int .i64 x.f1,.bool x.f2],rfl,rfl,⟨[.int .i64 x.f1],[.bool x.f2],rfl,rfl,rfl⟩⟩
def rd_T25 (xs:List S25) (i:Int):S25:=xs.getD i.toNat z25
theorem at_T25 {w:World} {A:Option Addr} {n:Nat} {xs:List S25} (h:Kd.C k25 w A n xs) (i:Int) (h0:0≤i) (h1:i<n): ∃ad,A=some ad∧w.cell? (ad.add (i.toNat*3))=some (.int .i64 (rd_T25 xs i).f0)∧w.cell? ⟨(ad.add (i.toNat*3)).block,(ad.add (i.toNat*3)).off+1,none⟩=some (.int .i64 (rd_T25 xs i).f1)∧w.cell? ⟨(ad.add (i.toNat*3)).block,(ad.add (i.toNat*3)).off+2,none⟩=some (.bool (rd_T25 xs i).f2):=by
  obtain⟨ad,c,e,_,hK,aA⟩:=Kd.C_get h z25 i h0 h1
  have hc: ∀j u,c[j]? =some u→w.cell? (ad.add (i.toNat*3+j))=some u:=aA
  obtain rfl:=k25_open hK
  exact⟨ad,e,hc 0 _ rfl,by rw[← add_field _ _ 1 (by omega)];exact hc 1 _ rfl,by rw[← add_field _ _ 2 (by omega)];exact hc 2 _ rfl⟩
def rd_L5 (xs:List (List Int)) (i:Int):(List Int):=xs.getD i.toNat ([]:List Int)
theorem at_L5 {w:World} {A:Option Addr} {n:Nat} {xs:List (List Int)} (h:Kd.C (Kd.slice 2 (Kd.int .i64)) w A n xs) (i:Int) (h0:0≤i) (h1:i<n): ∃ad A0 c0,A=some ad∧w.cell? (ad.add i.toNat)=some (.slice A0 (rd_L5 xs i).length c0)∧(rd_L5 xs i).length≤c0∧(Kd.int .i64).C w A0 (rd_L5 xs i).length (rd_L5 xs i):=by
  obtain⟨ad,c,e,_,hK,aA⟩:=Kd.C_get h ([]:List Int) i h0 h1
  have hc: ∀j u,c[j]? =some u→w.cell? (ad.add (i.toNat*1+j))=some u:=aA
  obtain⟨A0,c0,rfl,l0,g0⟩:=hK
  exact⟨ad,A0,c0,e,by have hq:=hc 0 _ rfl;rwa [Nat.mul_one,Nat.add_zero]at hq,l0,g0⟩
/-! #### struct type 61 -/
structure S61 where
  f0:Int
  f1:Int
def z61:S61:=⟨(0:Int),(0:Int)⟩
def k61:Kd S61:=Kd.iso (Kd.pair (Kd.int .i64) (Kd.int .i64)) (fun x:S61=>(x.f0,x.f1))
theorem k61_heap:Kd.Heap k61:=Kd.heap_iso _ (Kd.heap_pair (Kd.heap_int .i64) (Kd.heap_int .i64))
theorem k61_open {w:World} {x:S61} {cs:List Value} (h:k61.K w x cs):cs= [.int .i64 x.f0,.int .i64 x.f1]:=by
  obtain⟨_,_,rfl,rfl,rfl⟩:=h
  exact rfl
theorem k61_openM {w:World} {base:Nat} {ok:Nat→Prop} {x:S61} {cs:List Value} (h:k61.M w base ok x cs):cs= [.int .i64 x.f0,.int .i64 x.f1]:=by
  obtain⟨_,_,rfl,rfl,rfl⟩:=h
  exact rfl
theorem k61_mk (w:World) (x:S61):k61.K w x [.int .i64 x.f0,.int .i64 x.f1]:=⟨[.int .i64 x.f0],[.int .i64 x.f1],rfl,rfl,rfl⟩
theorem k61_mkM (w:World) (base:Nat) (ok:Nat→Prop) (x:S61):k61.M w base ok x [.int .i64 x.f0,.int .i64 x.f1]:=⟨[.int .i64 x.f0],[.int .i64 x.f1],rfl,rfl,rfl⟩
def rd_T61 (xs:List S61) (i:Int):S61:=xs.getD i.toNat z61
theorem at_T61 {w:World} {A:Option Addr} {n:Nat} {xs:List S61} (h:Kd.C k61 w A n xs) (i:Int) (h0:0≤i) (h1:i<n): ∃ad,A=some ad∧w.cell? (ad.add (i.toNat*2))=some (.int .i64 (rd_T61 xs i).f0)∧w.cell? ⟨(ad.add (i.toNat*2)).block,(ad.add (i.toNat*2)).off+1,none⟩=some (.int .i64 (rd_T61 xs i).f1):=by
  obtain⟨ad,c,e,_,hK,aA⟩:=Kd.C_get h z61 i h0 h1
  have hc: ∀j u,c[j]? =some u→w.cell? (ad.add (i.toNat*2+j))=some u:=aA
  obtain rfl:=k61_open hK
  exact⟨ad,e,hc 0 _ rfl,by rw[← add_field _ _ 1 (by omega)];exact hc 1 _ rfl⟩
end Go.Proofs.YtifdihbndlmgpaaGreatDoor.HWys
