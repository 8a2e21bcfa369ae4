-- Written by a program for this claim (the functions that the statement reaches, and that the program's code comes to them).
import Derived.Test.YtebbdadpgapobaaProg
import Derived.Test.YtebbdadpgapobaaSq
import Derived.Below
import Derived.Deep.Draws
import Derived.Deep.AppendLies
import Derived.Maps.AppendAt
import Derived.OwnWalk
import Derived.Laws.BytesArg
import Derived.Laws.MakeOwn
import Derived.Laws.OwnMore
import Derived.Deep.OwnRows
import Derived.Tactics
import Derived.Lib.ConvBytes
import Derived.Laws.Slices
import Derived.WalkKit
import Derived.KernelRfl
import Derived.RowKit3
import Derived.Deep.LoopGhost
import Derived.Deep.QuietTactic
import Derived.BigQuiet
import Derived.WideLaws
import Derived.Deep.DeepCutAuto
import Derived.Deep.CutBlock
import Derived.Deep.RegionHeld3
import Derived.Laws.Rows
import Derived.Lib.AppendStr
import Derived.ArgAppend
import Derived.Laws.IdiomCopy
import Derived.OrdersHeld
import Derived.Laws.BitsLemmas
import Derived.RowKit
import Derived.Test.YtebbdadpgapobaaRed
import Derived.Test.YtebbdadpgapobaaFra
import Derived.Test.YtebbdadpgapobaaVWords
import Derived.Test.YtebbdadpgapobaaVLast
import Derived.Test.YtebbdadpgapobaaVTab
import Derived.Test.YtebbdadpgapobaaVFour
import Derived.Test.YtebbdadpgapobaaVQPut
import Derived.Test.YtebbdadpgapobaaVApart
import Derived.Test.YtebbdadpgapobaaVArr
import Derived.Test.YtebbdadpgapobaaVZeros
import Derived.Test.YtebbdadpgapobaaVFoot
import Derived.Test.YtebbdadpgapobaaVKept
import Derived.Test.YtebbdadpgapobaaVShare
import Derived.Test.YtebbdadpgapobaaVN
import Derived.Test.YtebbdadpgapobaaVFootNe
import Derived.Test.YtebbdadpgapobaaVAt
import Derived.Test.YtebbdadpgapobaaVEqStruct
import Derived.Test.YtebbdadpgapobaaVRepsOne
import Derived.Test.YtebbdadpgapobaaVInv
import Derived.Test.YtebbdadpgapobaaVInvWords
import Derived.Test.YtebbdadpgapobaaVGuard
import Derived.Test.YtebbdadpgapobaaVNEv
import Derived.Test.YtebbdadpgapobaaVMore
namespace Go.Proofs.Ytebbdadpgapobaa.HEl
open Go.RowKit Go.Proofs.YtebbdadpgapobaaW.PrintWords Go.Proofs.YtebbdadpgapobaaW.PrintLast Go.Proofs.YtebbdadpgapobaaW.PrintMore
attribute [local go_sem] max2_int min2_int max_two min_two max_three min_three max_four min_four
set_option linter.unusedVariables false
set_option linter.unusedSimpArgs false
def errW:Option Int→Value
 |none=>.nilIface
 |some c=>.iface 0 (.int .i64 c)
theorem errW_none:errW none= .nilIface:=rfl
theorem errW_some (c:Int):errW (some c)= .iface 0 (.int .i64 c):=rfl
theorem info2:(Try.prog.info? 2).map (fun i=>(i.zero,i.size,i.bytes))=some (some (.int .i64 0),1,8):=by kernel_rfl
theorem info76:(Try.prog.info? 76).map (fun i=>(i.zero,i.size,i.bytes))=some (some (.agg #[(.int .i64 0),(.int .i64 0)]),2,16):=by kernel_rfl
theorem info90:(Try.prog.info? 90).map (fun i=>(i.zero,i.size,i.bytes))=some (some (.agg #[(.int .i64 0),(.int .i64 0),(.bool false)]),3,24):=by kernel_rfl
theorem info104:(Try.prog.info? 104).map (fun i=>(i.zero,i.size,i.bytes))=some (some (.agg #[(.int .i64 0),(.int .i64 0),(.bool false)]),3,24):=by kernel_rfl
theorem info140:(Try.prog.info? 140).map (fun i=>(i.zero,i.size,i.bytes))=some (some (.slice none 0 0),1,24):=by kernel_rfl
/-! #### struct type 126 -/
structure S126 where
 f0:Int
 f1:Int
 f2:Bool
def z126:S126:=⟨(0:Int),(0:Int),false⟩
def k126:Kd S126:=Kd.iso (Kd.pair (Kd.int .i64) (Kd.pair (Kd.int .i64) Kd.bool)) (fun x:S126=>(x.f0,x.f1,x.f2))
theorem k126_open {w:World} {x:S126} {cs:List Value} (h:k126.K w x cs):cs= [.int .i64 x.f0,.int .i64 x.f1,.bool x.f2]:=by
 obtain⟨_,_,rfl,rfl,⟨_,_,rfl,rfl,rfl⟩⟩:=h
 exact rfl
theorem k126_openM {w:World} {base:Nat} {ok:Nat→Prop} {x:S126} {cs:List Value} (h:k126.M w base ok x cs):cs= [.int .i64 x.f0,.int .i64 x.f1,.bool x.f2]:=by
 obtain⟨_,_,rfl,rfl,⟨_,_,rfl,rfl,rfl⟩⟩:=h
 exact rfl
theorem k126_mk (w:World) (x:S126):k126.K w x [.int .i64 x.f0,.int .i64 x.f1,.bool x.f2]:=⟨[.int .i64 x.f0],[.int .i64 x.f1,.bool x.f2],rfl,rfl,⟨[.int .i64 x.f1],[.bool x.f2],rfl,rfl,rfl⟩⟩
theorem k126_mkM (w:World) (base:Nat) (ok:Nat→Prop) (x:S126):k126.M w base ok x [.int .i64 x.f0,.int .i64 x.f1,.bool x.f2]:=⟨[.int .i64 x.f0],[.int .i64 x.f1,.bool x.f2],rfl,rfl,⟨[.int .i64 x.f1],[.bool x.f2],rfl,rfl,rfl⟩⟩
def rd_T126 (xs:List S126) (i:Int):S126:=xs.getD i.toNat z126
theorem at_T126 {w:World} {A:Option Addr} {n:Nat} {xs:List S126} (h:Kd.C k126 w A n xs) (i:Int) (h0:0≤i) (h1:i<n): ∃ad,A=some ad∧w.cell? (ad.add (i.toNat*3))=some (.int .i64 (rd_T126 xs i).f0)∧w.cell? ⟨(ad.add (i.toNat*3)).block,(ad.add (i.toNat*3)).off+1,none⟩=some (.int .i64 (rd_T126 xs i).f1)∧w.cell? ⟨(ad.add (i.toNat*3)).block,(ad.add (i.toNat*3)).off+2,none⟩=some (.bool (rd_T126 xs i).f2):=by
 obtain⟨ad,c,e,_,hK,aA⟩:=Kd.C_get h z126 i h0 h1
 have hc: ∀j u,c[j]? =some u→w.cell? (ad.add (i.toNat*3+j))=some u:=aA
 obtain rfl:=k126_open hK
 exact⟨ad,e,hc 0 _ rfl,by rw[← add_field _ _ 1 (by omega)];exact hc 1 _ rfl,by rw[← add_field _ _ 2 (by omega)];exact hc 2 _ rfl⟩
/-! #### struct type 128 -/
structure S128 where
 f0:Int
 f1:Int
 f2:Bool
def z128:S128:=⟨(0:Int),(0:Int),false⟩
def k128:Kd S128:=Kd.iso (Kd.pair (Kd.int .i64) (Kd.pair (Kd.int .i64) Kd.bool)) (fun x:S128=>(x.f0,x.f1,x.f2))
theorem k128_open {w:World} {x:S128} {cs:List Value} (h:k128.K w x cs):cs= [.int .i64 x.f0,.int .i64 x.f1,.bool x.f2]:=by
 obtain⟨_,_,rfl,rfl,⟨_,_,rfl,rfl,rfl⟩⟩:=h
 exact rfl
theorem k128_openM {w:World} {base:Nat} {ok:Nat→Prop} {x:S128} {cs:List Value} (h:k128.M w base ok x cs):cs= [.int .i64 x.f0,.int .i64 x.f1,.bool x.f2]:=by
 obtain⟨_,_,rfl,rfl,⟨_,_,rfl,rfl,rfl⟩⟩:=h
 exact rfl
theorem k128_mk (w:World) (x:S128):k128.K w x [.int .i64 x.f0,.int .i64 x.f1,.bool x.f2]:=⟨[.int .i64 x.f0],[.int .i64 x.f1,.bool x.f2],rfl,rfl,⟨[.int .i64 x.f1],[.bool x.f2],rfl,rfl,rfl⟩⟩
theorem k128_mkM (w:World) (base:Nat) (ok:Nat→Prop) (x:S128):k128.M w base ok x [.int .i64 x.f0,.int .i64 x.f1,.bool x.f2]:=⟨[.int .i64 x.f0],[.int .i64 x.f1,.bool x.f2],rfl,rfl,⟨[.int .i64 x.f1],[.bool x.f2],rfl,rfl,rfl⟩⟩
def rd_T128 (xs:List S128) (i:Int):S128:=xs.getD i.toNat z128
theorem at_T128 {w:World} {A:Option Addr} {n:Nat} {xs:List S128} (h:Kd.C k128 w A n xs) (i:Int) (h0:0≤i) (h1:i<n): ∃ad,A=some ad∧w.cell? (ad.add (i.toNat*3))=some (.int .i64 (rd_T128 xs i).f0)∧w.cell? ⟨(ad.add (i.toNat*3)).block,(ad.add (i.toNat*3)).off+1,none⟩=some (.int .i64 (rd_T128 xs i).f1)∧w.cell? ⟨(ad.add (i.toNat*3)).block,(ad.add (i.toNat*3)).off+2,none⟩=some (.bool (rd_T128 xs i).f2):=by
 obtain⟨ad,c,e,_,hK,aA⟩:=Kd.C_get h z128 i h0 h1
 have hc: ∀j u,c[j]? =some u→w.cell? (ad.add (i.toNat*3+j))=some u:=aA
 obtain rfl:=k128_open hK
 exact⟨ad,e,hc 0 _ rfl,by rw[← add_field _ _ 1 (by omega)];exact hc 1 _ rfl,by rw[← add_field _ _ 2 (by omega)];exact hc 2 _ rfl⟩
/-! #### struct type 90 -/
structure S90 where
 f0:Int
 f1:Int
 f2:Bool
def z90:S90:=⟨(0:Int),(0:Int),false⟩
def k90:Kd S90:=Kd.iso (Kd.pair (Kd.int .i64) (Kd.pair (Kd.int .i64) Kd.bool)) (fun x:S90=>(x.f0,x.f1,x.f2))
theorem k90_open {w:World} {x:S90} {cs:List Value} (h:k90.K w x cs):cs= [.int .i64 x.f0,.int .i64 x.f1,.bool x.f2]:=by
 obtain⟨_,_,rfl,rfl,⟨_,_,rfl,rfl,rfl⟩⟩:=h
 exact rfl
theorem k90_openM {w:World} {base:Nat} {ok:Nat→Prop} {x:S90} {cs:List Value} (h:k90.M w base ok x cs):cs= [.int .i64 x.f0,.int .i64 x.f1,.bool x.f2]:=by
 obtain⟨_,_,rfl,rfl,⟨_,_,rfl,rfl,rfl⟩⟩:=h
 exact rfl
theorem k90_mk (w:World) (x:S90):k90.K w x [.int .i64 x.f0,.int .i64 x.f1,.bool x.f2]:=⟨[.int .i64 x.f0],[.int .i64 x.f1,.bool x.f2],rfl,rfl,⟨[.int .i64 x.f1],[.bool x.f2],rfl,rfl,rfl⟩⟩
theorem k90_mkM (w:World) (base:Nat) (ok:Nat→Prop) (x:S90):k90.M w base ok x [.int .i64 x.f0,.int .i64 x.f1,.bool x.f2]:=⟨[.int .i64 x.f0],[.int .i64 x.f1,.bool x.f2],rfl,rfl,⟨[.int .i64 x.f1],[.bool x.f2],rfl,rfl,rfl⟩⟩
def rd_T90 (xs:List S90) (i:Int):S90:=xs.getD i.toNat z90
theorem at_T90 {w:World} {A:Option Addr} {n:Nat} {xs:List S90} (h:Kd.C k90 w A n xs) (i:Int) (h0:0≤i) (h1:i<n): ∃ad,A=some ad∧w.cell? (ad.add (i.toNat*3))=some (.int .i64 (rd_T90 xs i).f0)∧w.cell? ⟨(ad.add (i.toNat*3)).block,(ad.add (i.toNat*3)).off+1,none⟩=some (.int .i64 (rd_T90 xs i).f1)∧w.cell? ⟨(ad.add (i.toNat*3)).block,(ad.add (i.toNat*3)).off+2,none⟩=some (.bool (rd_T90 xs i).f2):=by
 obtain⟨ad,c,e,_,hK,aA⟩:=Kd.C_get h z90 i h0 h1
 have hc: ∀j u,c[j]? =some u→w.cell? (ad.add (i.toNat*3+j))=some u:=aA
 obtain rfl:=k90_open hK
 exact⟨ad,e,hc 0 _ rfl,by rw[← add_field _ _ 1 (by omega)];exact hc 1 _ rfl,by rw[← add_field _ _ 2 (by omega)];exact hc 2 _ rfl⟩
/-! #### struct type 104 -/
structure S104 where
 f0:Int
 f1:Int
 f2:Bool
def z104:S104:=⟨(0:Int),(0:Int),false⟩
def k104:Kd S104:=Kd.iso (Kd.pair (Kd.int .i64) (Kd.pair (Kd.int .i64) Kd.bool)) (fun x:S104=>(x.f0,x.f1,x.f2))
theorem k104_open {w:World} {x:S104} {cs:List Value} (h:k104.K w x cs):cs= [.int .i64 x.f0,.int .i64 x.f1,.bool x.f2]:=by
 obtain⟨_,_,rfl,rfl,⟨_,_,rfl,rfl,rfl⟩⟩:=h
 exact rfl
theorem k104_openM {w:World} {base:Nat} {ok:Nat→Prop} {x:S104} {cs:List Value} (h:k104.M w base ok x cs):cs= [.int .i64 x.f0,.int .i64 x.f1,.bool x.f2]:=by
 obtain⟨_,_,rfl,rfl,⟨_,_,rfl,rfl,rfl⟩⟩:=h
 exact rfl
theorem k104_mk (w:World) (x:S104):k104.K w x [.int .i64 x.f0,.int .i64 x.f1,.bool x.f2]:=⟨[.int .i64 x.f0],[.int .i64 x.f1,.bool x.f2],rfl,rfl,⟨[.int .i64 x.f1],[.bool x.f2],rfl,rfl,rfl⟩⟩
theorem k104_mkM (w:World) (base:Nat) (ok:Nat→Prop) (x:S104):k104.M w base ok x [.int .i64 x.f0,.int .i64 x.f1,.bool x.f2]:=⟨[.int .i64 x.f0],[.int .i64 x.f1,.bool x.f2],rfl,rfl,⟨[.int .i64 x.f1],[.bool x.f2],rfl,rfl,rfl⟩⟩
def rd_T104 (xs:List S104) (i:Int):S104:=xs.getD i.toNat z104
theorem at_T104 {w:World} {A:Option Addr} {n:Nat} {xs:List S104} (h:Kd.C k104 w A n xs) (i:Int) (h0:0≤i) (h1:i<n): ∃ad,A=some ad∧w.cell? (ad.add (i.toNat*3))=some (.int .i64 (rd_T104 xs i).f0)∧w.cell? ⟨(ad.add (i.toNat*3)).block,(ad.add (i.toNat*3)).off+1,none⟩=some (.int .i64 (rd_T104 xs i).f1)∧w.cell? ⟨(ad.add (i.toNat*3)).block,(ad.add (i.toNat*3)).off+2,none⟩=some (.bool (rd_T104 xs i).f2):=by
 obtain⟨ad,c,e,_,hK,aA⟩:=Kd.C_get h z104 i h0 h1
 have hc: ∀j u,c[j]? =some u→w.cell? (ad.add (i.toNat*3+j))=some u:=aA
 obtain rfl:=k104_open hK
 exact⟨ad,e,hc 0 _ rfl,by rw[← add_field _ _ 1 (by omega)];exact hc 1 _ rfl,by rw[← add_field _ _ 2 (by omega)];exact hc 2 _ rfl⟩
/-! #### struct type 98 -/
structure S98 where
 f0:Int
 f1:Int
def z98:S98:=⟨(0:Int),(0:Int)⟩
def k98:Kd S98:=Kd.iso (Kd.pair (Kd.int .i64) (Kd.int .i64)) (fun x:S98=>(x.f0,x.f1))
theorem k98_open {w:World} {x:S98} {cs:List Value} (h:k98.K w x cs):cs= [.int .i64 x.f0,.int .i64 x.f1]:=by
 obtain⟨_,_,rfl,rfl,rfl⟩:=h
 exact rfl
theorem k98_openM {w:World} {base:Nat} {ok:Nat→Prop} {x:S98} {cs:List Value} (h:k98.M w base ok x cs):cs= [.int .i64 x.f0,.int .i64 x.f1]:=by
 obtain⟨_,_,rfl,rfl,rfl⟩:=h
 exact rfl
theorem k98_mk (w:World) (x:S98):k98.K w x [.int .i64 x.f0,.int .i64 x.f1]:=⟨[.int .i64 x.f0],[.int .i64 x.f1],rfl,rfl,rfl⟩
theorem k98_mkM (w:World) (base:Nat) (ok:Nat→Prop) (x:S98):k98.M w base ok x [.int .i64 x.f0,.int .i64 x.f1]:=⟨[.int .i64 x.f0],[.int .i64 x.f1],rfl,rfl,rfl⟩
def rd_T98 (xs:List S98) (i:Int):S98:=xs.getD i.toNat z98
theorem at_T98 {w:World} {A:Option Addr} {n:Nat} {xs:List S98} (h:Kd.C k98 w A n xs) (i:Int) (h0:0≤i) (h1:i<n): ∃ad,A=some ad∧w.cell? (ad.add (i.toNat*2))=some (.int .i64 (rd_T98 xs i).f0)∧w.cell? ⟨(ad.add (i.toNat*2)).block,(ad.add (i.toNat*2)).off+1,none⟩=some (.int .i64 (rd_T98 xs i).f1):=by
 obtain⟨ad,c,e,_,hK,aA⟩:=Kd.C_get h z98 i h0 h1
 have hc: ∀j u,c[j]? =some u→w.cell? (ad.add (i.toNat*2+j))=some u:=aA
 obtain rfl:=k98_open hK
 exact⟨ad,e,hc 0 _ rfl,by rw[← add_field _ _ 1 (by omega)];exact hc 1 _ rfl⟩
/-! #### struct type 76 -/
structure S76 where
 f0:Int
 f1:Int
def z76:S76:=⟨(0:Int),(0:Int)⟩
def k76:Kd S76:=Kd.iso (Kd.pair (Kd.int .i64) (Kd.int .i64)) (fun x:S76=>(x.f0,x.f1))
theorem k76_open {w:World} {x:S76} {cs:List Value} (h:k76.K w x cs):cs= [.int .i64 x.f0,.int .i64 x.f1]:=by
 obtain⟨_,_,rfl,rfl,rfl⟩:=h
 exact rfl
theorem k76_openM {w:World} {base:Nat} {ok:Nat→Prop} {x:S76} {cs:List Value} (h:k76.M w base ok x cs):cs= [.int .i64 x.f0,.int .i64 x.f1]:=by
 obtain⟨_,_,rfl,rfl,rfl⟩:=h
 exact rfl
theorem k76_mk (w:World) (x:S76):k76.K w x [.int .i64 x.f0,.int .i64 x.f1]:=⟨[.int .i64 x.f0],[.int .i64 x.f1],rfl,rfl,rfl⟩
theorem k76_mkM (w:World) (base:Nat) (ok:Nat→Prop) (x:S76):k76.M w base ok x [.int .i64 x.f0,.int .i64 x.f1]:=⟨[.int .i64 x.f0],[.int .i64 x.f1],rfl,rfl,rfl⟩
def rd_T76 (xs:List S76) (i:Int):S76:=xs.getD i.toNat z76
theorem at_T76 {w:World} {A:Option Addr} {n:Nat} {xs:List S76} (h:Kd.C k76 w A n xs) (i:Int) (h0:0≤i) (h1:i<n): ∃ad,A=some ad∧w.cell? (ad.add (i.toNat*2))=some (.int .i64 (rd_T76 xs i).f0)∧w.cell? ⟨(ad.add (i.toNat*2)).block,(ad.add (i.toNat*2)).off+1,none⟩=some (.int .i64 (rd_T76 xs i).f1):=by
 obtain⟨ad,c,e,_,hK,aA⟩:=Kd.C_get h z76 i h0 h1
 have hc: ∀j u,c[j]? =some u→w.cell? (ad.add (i.toNat*2+j))=some u:=aA
 obtain rfl:=k76_open hK
 exact⟨ad,e,hc 0 _ rfl,by rw[← add_field _ _ 1 (by omega)];exact hc 1 _ rfl⟩
/-! #### struct type 142 -/
structure S142 where
 f0:Int
 f1:Int
def z142:S142:=⟨(0:Int),(0:Int)⟩
def k142:Kd S142:=Kd.iso (Kd.pair (Kd.int .i64) (Kd.int .i64)) (fun x:S142=>(x.f0,x.f1))
theorem k142_open {w:World} {x:S142} {cs:List Value} (h:k142.K w x cs):cs= [.int .i64 x.f0,.int .i64 x.f1]:=by
 obtain⟨_,_,rfl,rfl,rfl⟩:=h
 exact rfl
theorem k142_openM {w:World} {base:Nat} {ok:Nat→Prop} {x:S142} {cs:List Value} (h:k142.M w base ok x cs):cs= [.int .i64 x.f0,.int .i64 x.f1]:=by
 obtain⟨_,_,rfl,rfl,rfl⟩:=h
 exact rfl
theorem k142_mk (w:World) (x:S142):k142.K w x [.int .i64 x.f0,.int .i64 x.f1]:=⟨[.int .i64 x.f0],[.int .i64 x.f1],rfl,rfl,rfl⟩
theorem k142_mkM (w:World) (base:Nat) (ok:Nat→Prop) (x:S142):k142.M w base ok x [.int .i64 x.f0,.int .i64 x.f1]:=⟨[.int .i64 x.f0],[.int .i64 x.f1],rfl,rfl,rfl⟩
def rd_T142 (xs:List S142) (i:Int):S142:=xs.getD i.toNat z142
theorem at_T142 {w:World} {A:Option Addr} {n:Nat} {xs:List S142} (h:Kd.C k142 w A n xs) (i:Int) (h0:0≤i) (h1:i<n): ∃ad,A=some ad∧w.cell? (ad.add (i.toNat*2))=some (.int .i64 (rd_T142 xs i).f0)∧w.cell? ⟨(ad.add (i.toNat*2)).block,(ad.add (i.toNat*2)).off+1,none⟩=some (.int .i64 (rd_T142 xs i).f1):=by
 obtain⟨ad,c,e,_,hK,aA⟩:=Kd.C_get h z142 i h0 h1
 have hc: ∀j u,c[j]? =some u→w.cell? (ad.add (i.toNat*2+j))=some u:=aA
 obtain rfl:=k142_open hK
 exact⟨ad,e,hc 0 _ rfl,by rw[← add_field _ _ 1 (by omega)];exact hc 1 _ rfl⟩
def rd_L9 (xs:List (List S142)) (i:Int):(List S142):=xs.getD i.toNat ([]:List S142)
theorem at_L9 {w:World} {A:Option Addr} {n:Nat} {xs:List (List S142)} (h:Kd.C (Kd.slice 142 k142) w A n xs) (i:Int) (h0:0≤i) (h1:i<n): ∃ad A0 c0,A=some ad∧w.cell? (ad.add i.toNat)=some (.slice A0 (rd_L9 xs i).length c0)∧(rd_L9 xs i).length≤c0∧k142.C w A0 (rd_L9 xs i).length (rd_L9 xs i):=by
 obtain⟨ad,c,e,_,hK,aA⟩:=Kd.C_get h ([]:List S142) i h0 h1
 have hc: ∀j u,c[j]? =some u→w.cell? (ad.add (i.toNat*1+j))=some u:=aA
 obtain⟨A0,c0,rfl,l0,g0⟩:=hK
 exact⟨ad,A0,c0,e,by have hq:=hc 0 _ rfl;rwa [Nat.mul_one,Nat.add_zero]at hq,l0,g0⟩
end Go.Proofs.Ytebbdadpgapobaa.HEl
