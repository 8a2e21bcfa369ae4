-- Written by a program for this claim (the functions that the statement reaches, and that the program's code comes to them).
import Derived.Test.YtifdihbndlmgpaaGreatDoorHWysx0
import Derived.Test.YtifdihbndlmgpaaGreatDoorHWysx2
import Derived.Test.YtifdihbndlmgpaaGreatDoorHWysx3
import Derived.Test.YtifdihbndlmgpaaGreatDoorHWysx4
import Derived.Test.YtifdihbndlmgpaaGreatDoorHWysx5
import Derived.Test.YtifdihbndlmgpaaGreatDoorHWysx6
import Derived.Test.YtifdihbndlmgpaaGreatDoorHWysx7
import Derived.Test.YtifdihbndlmgpaaGreatDoorHWysx8
import Derived.Test.YtifdihbndlmgpaaGreatDoorHWysx9
namespace Go.Proofs.YtifdihbndlmgpaaGreatDoor.HWys
open Go.RowKit Go.Proofs.YtifdihbndlmgpaaGreatDoorW.PrintWords Go.Proofs.YtifdihbndlmgpaaGreatDoorW.PrintLast Go.Proofs.YtifdihbndlmgpaaGreatDoorW.PrintMore
attribute [local go_sem] max2_int min2_int max_two min_two max_three min_three max_four min_four
set_option linter.unusedVariables false
set_option linter.unusedSimpArgs false
/-! ### laws_FnWays: function 3 -/
mutual
def laws_FnWays.j0:Nat→List (S51)→List (S51)→Int→ByteArray→Bool→Int→Int→List (S51)→List (List Int)→Bool→Int→Int→Bool→Option (Bool)
 |0,_,_,_,_,_,_,_,_,_,_,_,_,_=>none
 |k+1,x4,x5,x6,x9,aI,aH,aG,aF,aE,aD,aB,aA,aC=>if aD=true then(none)else(if aH=0 then(laws_FnWays.j1 k x4 x5 x6 aG aF aE (aI != (x9.toList == ([110,111,110,101]:List UInt8))) aB aA aC)else(laws_FnWays.j1 k x4 x5 x6 aG aF aE false aB aA aC))
def laws_FnWays.j1:Nat→List (S51)→List (S51)→Int→Int→List (S51)→List (List Int)→Bool→Int→Int→Bool→Option (Bool)
 |0,_,_,_,_,_,_,_,_,_,_=>none
 |k+1,x4,x5,x6,aI,aF,aH,aG,aB,aA,aC=>if aG=true then(none)else(if aI=0 then((impl_IsWay.f k aB aA aC aF).bind fun aD=>((impl_CrossingsOf.f k aB aA aC aF false).bind fun aE=>(if aD.2=0 then(if aD.1=true then(if aE.2=0 then(if aE.1=0 then(if(aF.length:Int)=(wrap64 (aB+aA))then(laws_FnWays.j2 k x4 x5 x6 aH aB aA aC)else(none))else(none))else(none))else(none))else(none))))else(laws_FnWays.j2 k x4 x5 x6 aH aB aA aC))
def laws_FnWays.j2:Nat→List (S51)→List (S51)→Int→List (List Int)→Int→Int→Bool→Option (Bool)
 |0,_,_,_,_,_,_,_=>none
 |k+1,x4,x5,x6,aH,aC,aA,aB=>if x6=0 then((impl_MirrorWay.f k aC aA aB x5).bind fun aF=>((impl_CrossingsOf.f k aC aA aB x4 false).bind fun aE=>((impl_CrossingsOf.f k aC aA aB x5 false).bind fun aD=>(if aF.2=0 then((spec_SameWay.f k aF.1 x4).bind fun aG=>(if aG=true then(if aE.2=0 then(if aD.2=0 then(if aE.1=aD.1 then(some ((wrap64 ((aH.length:Int)+1)) == (x4.length:Int)))else(none))else(none))else(none))else(none)))else(none)))))else(some true)
end
def laws_FnWays.f (k:Nat) (l0:List Int):Option (Bool):=(laws_f6big.f l0).bind fun bB=>(if bB=true then(some true)else((spec_DrawMirrorWay.f k l0).bind fun aA=>((impl_MirrorWay.f k aA.1 aA.2.1 aA.2.2.1 aA.2.2.2).bind fun aD=>((spec_MirrorWay.f k aA.1 aA.2.1 aA.2.2.1 aA.2.2.2).bind fun aL=>((impl_WayFault.f k aA.1 aA.2.1 aA.2.2.1 aA.2.2.2).bind fun aE=>((spec_WayFault.f k aA.1 aA.2.1 aA.2.2.1 aA.2.2.2).bind fun aK=>((impl_IsWay.f k aA.1 aA.2.1 aA.2.2.1 aA.2.2.2).bind fun aC=>((spec_IsWay.f k aA.1 aA.2.1 aA.2.2.1 aA.2.2.2).bind fun aN=>((impl_PlainWay.f k aA.1 aA.2.1 aA.2.2.1).bind fun aJ=>((spec_PlainWay.f k aA.1 aA.2.1 aA.2.2.1).bind fun aF=>((impl_PartsOfWay.f k aA.1 aA.2.1 aA.2.2.1 aA.2.2.2).bind fun aM=>((spec_PartsOfWay.f k aA.1 aA.2.1 aA.2.2.1 aA.2.2.2).bind fun aG=>((impl_WayText.f k aA.1 aA.2.1 aA.2.2.1 aA.2.2.2).bind fun aP=>((impl_ReadWay.f k aP).bind fun aO=>((spec_DrawReadWay.f k l0).bind fun aQ=>((impl_ReadWay.f k aQ).bind fun aI=>((spec_ReadWay.f k aQ).bind fun aH=>((spec_DrawSameWay.f k l0).bind fun aB=>(if aD.2=aL.2 then((spec_SameWay.f k aD.1 aL.1).bind fun aV=>(if aV=true then(if aE.2.2=aK.2.2 then(if aE.1.toList=aK.1.toList then(if aE.2.1=aK.2.1 then(if aC.2=aN.2 then(if(aC.1 != aN.1)=true then(none)else(if aJ.2=aF.2 then((spec_SameWay.f k aJ.1 aF.1).bind fun aS=>(if aS=true then(if aM.2=aG.2 then((laws_f6lists.f k aM.1 aG.1).bind fun aR=>(if aR=true then((spec_WayText.f k aA.1 aA.2.1 aA.2.2.1 aA.2.2.2).bind fun aU=>(if aP.toList=aU.toList then(if aP.toList=([]:List UInt8)then(if(aI.2 != aH.2)=true then(none)else((spec_SameWay.f k aI.1 aH.1).bind fun aT=>(if aT=true then((impl_SameWay.f k aB.1 aB.2).bind fun aX=>((spec_SameWay.f k aB.1 aB.2).bind fun aW=>(laws_FnWays.j0 k aA.2.2.2 aD.1 aD.2 aE.1 aC.1 aC.2 aJ.2 aF.1 aG.1 (aX != aW) aA.1 aA.2.1 aA.2.2.1)))else(none))))else(if aO.2=true then((spec_SameWay.f k aO.1 aA.2.2.2).bind fun bC=>(if bC=true then(if(aI.2 != aH.2)=true then(none)else((spec_SameWay.f k aI.1 aH.1).bind fun aZ=>(if aZ=true then((impl_SameWay.f k aB.1 aB.2).bind fun aY=>((spec_SameWay.f k aB.1 aB.2).bind fun bA=>(laws_FnWays.j0 k aA.2.2.2 aD.1 aD.2 aE.1 aC.1 aC.2 aJ.2 aF.1 aG.1 (aY != bA) aA.1 aA.2.1 aA.2.2.1)))else(none))))else(none)))else(none)))else(none)))else(none)))else(none))else(none)))else(none)))else(none))else(none))else(none))else(none))else(none)))else(none))))))))))))))))))))
theorem laws_FnWays.mono_l: ∀k,(∀y0 y1 y2 y3 y4 y5 y6 y7 y8 y9 aB aF aD,LeO (laws_FnWays.j0 k y0 y1 y2 y3 y4 y5 y6 y7 y8 y9 aB aF aD) (laws_FnWays.j0 (k+1) y0 y1 y2 y3 y4 y5 y6 y7 y8 y9 aB aF aD))∧(∀y0 y1 y2 y3 y4 y5 y6 y7 y8 y9,LeO (laws_FnWays.j1 k y0 y1 y2 y3 y4 y5 y6 y7 y8 y9) (laws_FnWays.j1 (k+1) y0 y1 y2 y3 y4 y5 y6 y7 y8 y9))∧(∀y0 y1 y2 y3 y4 y5 y6,LeO (laws_FnWays.j2 k y0 y1 y2 y3 y4 y5 y6) (laws_FnWays.j2 (k+1) y0 y1 y2 y3 y4 y5 y6))
 |0=>⟨fun _ _ _ _ _ _ _ _ _ _ _ _ _ r h=>by simp[laws_FnWays.j0]at h,fun _ _ _ _ _ _ _ _ _ _ r h=>by simp[laws_FnWays.j1]at h,fun _ _ _ _ _ _ _ r h=>by simp[laws_FnWays.j2]at h⟩
 |k+1=>by
  obtain⟨aE,aA,aC⟩:=laws_FnWays.mono_l k
  refine⟨?_,?_,?_⟩
  ·intro y0 y1 y2 y3 y4 y5 y6 y7 y8 y9 aB aF aD
   unfold laws_FnWays.j0
   repeat' first
   |(with_reducible exact aE _ _ _ _ _ _ _ _ _ _ _ _ _)
   |(with_reducible exact aA _ _ _ _ _ _ _ _ _ _)
   |(with_reducible exact aC _ _ _ _ _ _ _)
   |(with_reducible exact impl_CrossingsOf.mono _ _ _ _ _ _)
   |(with_reducible exact impl_IsWay.mono _ _ _ _ _)
   |(with_reducible exact impl_MirrorWay.mono _ _ _ _ _)
   |(with_reducible exact impl_PartsOfWay.mono _ _ _ _ _)
   |(with_reducible exact impl_PlainWay.mono _ _ _ _)
   |(with_reducible exact impl_ReadWay.mono _ _)
   |(with_reducible exact impl_SameWay.mono _ _ _)
   |(with_reducible exact impl_WayFault.mono _ _ _ _ _)
   |(with_reducible exact impl_WayText.mono _ _ _ _ _)
   |(with_reducible exact laws_f6lists.mono _ _ _)
   |(with_reducible exact spec_DrawMirrorWay.mono _ _)
   |(with_reducible exact spec_DrawReadWay.mono _ _)
   |(with_reducible exact spec_DrawSameWay.mono _ _)
   |(with_reducible exact spec_IsWay.mono _ _ _ _ _)
   |(with_reducible exact spec_MirrorWay.mono _ _ _ _ _)
   |(with_reducible exact spec_PartsOfWay.mono _ _ _ _ _)
   |(with_reducible exact spec_PlainWay.mono _ _ _ _)
   |(with_reducible exact spec_ReadWay.mono _ _)
   |(with_reducible exact spec_SameWay.mono _ _ _)
   |(with_reducible exact spec_WayFault.mono _ _ _ _ _)
   |(with_reducible exact spec_WayText.mono _ _ _ _ _)
   |(with_reducible exact LeO.refl _)
   |(with_reducible exact LeO.none _)
   |(with_reducible refine LeO.ite ?_ ?_)
   |(with_reducible refine LeO.bind ?_ (fun _=>?_))
   |exact LeO.none _
   |refine LeO.ite ?_ ?_
   |refine LeO.bind ?_ (fun _=>?_)
  ·intro y0 y1 y2 y3 y4 y5 y6 y7 y8 y9
   unfold laws_FnWays.j1
   repeat' first
   |(with_reducible exact aE _ _ _ _ _ _ _ _ _ _ _ _ _)
   |(with_reducible exact aA _ _ _ _ _ _ _ _ _ _)
   |(with_reducible exact aC _ _ _ _ _ _ _)
   |(with_reducible exact impl_CrossingsOf.mono _ _ _ _ _ _)
   |(with_reducible exact impl_IsWay.mono _ _ _ _ _)
   |(with_reducible exact impl_MirrorWay.mono _ _ _ _ _)
   |(with_reducible exact impl_PartsOfWay.mono _ _ _ _ _)
   |(with_reducible exact impl_PlainWay.mono _ _ _ _)
   |(with_reducible exact impl_ReadWay.mono _ _)
   |(with_reducible exact impl_SameWay.mono _ _ _)
   |(with_reducible exact impl_WayFault.mono _ _ _ _ _)
   |(with_reducible exact impl_WayText.mono _ _ _ _ _)
   |(with_reducible exact laws_f6lists.mono _ _ _)
   |(with_reducible exact spec_DrawMirrorWay.mono _ _)
   |(with_reducible exact spec_DrawReadWay.mono _ _)
   |(with_reducible exact spec_DrawSameWay.mono _ _)
   |(with_reducible exact spec_IsWay.mono _ _ _ _ _)
   |(with_reducible exact spec_MirrorWay.mono _ _ _ _ _)
   |(with_reducible exact spec_PartsOfWay.mono _ _ _ _ _)
   |(with_reducible exact spec_PlainWay.mono _ _ _ _)
   |(with_reducible exact spec_ReadWay.mono _ _)
   |(with_reducible exact spec_SameWay.mono _ _ _)
   |(with_reducible exact spec_WayFault.mono _ _ _ _ _)
   |(with_reducible exact spec_WayText.mono _ _ _ _ _)
   |(with_reducible exact LeO.refl _)
   |(with_reducible exact LeO.none _)
   |(with_reducible refine LeO.ite ?_ ?_)
   |(with_reducible refine LeO.bind ?_ (fun _=>?_))
   |exact LeO.none _
   |refine LeO.ite ?_ ?_
   |refine LeO.bind ?_ (fun _=>?_)
  ·intro y0 y1 y2 y3 y4 y5 y6
   unfold laws_FnWays.j2
   repeat' first
   |(with_reducible exact aE _ _ _ _ _ _ _ _ _ _ _ _ _)
   |(with_reducible exact aA _ _ _ _ _ _ _ _ _ _)
   |(with_reducible exact aC _ _ _ _ _ _ _)
   |(with_reducible exact impl_CrossingsOf.mono _ _ _ _ _ _)
   |(with_reducible exact impl_IsWay.mono _ _ _ _ _)
   |(with_reducible exact impl_MirrorWay.mono _ _ _ _ _)
   |(with_reducible exact impl_PartsOfWay.mono _ _ _ _ _)
   |(with_reducible exact impl_PlainWay.mono _ _ _ _)
   |(with_reducible exact impl_ReadWay.mono _ _)
   |(with_reducible exact impl_SameWay.mono _ _ _)
   |(with_reducible exact impl_WayFault.mono _ _ _ _ _)
   |(with_reducible exact impl_WayText.mono _ _ _ _ _)
   |(with_reducible exact laws_f6lists.mono _ _ _)
   |(with_reducible exact spec_DrawMirrorWay.mono _ _)
   |(with_reducible exact spec_DrawReadWay.mono _ _)
   |(with_reducible exact spec_DrawSameWay.mono _ _)
   |(with_reducible exact spec_IsWay.mono _ _ _ _ _)
   |(with_reducible exact spec_MirrorWay.mono _ _ _ _ _)
   |(with_reducible exact spec_PartsOfWay.mono _ _ _ _ _)
   |(with_reducible exact spec_PlainWay.mono _ _ _ _)
   |(with_reducible exact spec_ReadWay.mono _ _)
   |(with_reducible exact spec_SameWay.mono _ _ _)
   |(with_reducible exact spec_WayFault.mono _ _ _ _ _)
   |(with_reducible exact spec_WayText.mono _ _ _ _ _)
   |(with_reducible exact LeO.refl _)
   |(with_reducible exact LeO.none _)
   |(with_reducible refine LeO.ite ?_ ?_)
   |(with_reducible refine LeO.bind ?_ (fun _=>?_))
   |exact LeO.none _
   |refine LeO.ite ?_ ?_
   |refine LeO.bind ?_ (fun _=>?_)
theorem laws_FnWays.mono: ∀a0 k,LeO (laws_FnWays.f k a0) (laws_FnWays.f (k+1) a0):=by
 intro a0 k
 obtain⟨aA,aB,aC⟩:=laws_FnWays.mono_l k
 unfold laws_FnWays.f
 repeat' first
   |(with_reducible exact aA _ _ _ _ _ _ _ _ _ _ _ _ _)
   |(with_reducible exact aB _ _ _ _ _ _ _ _ _ _)
   |(with_reducible exact aC _ _ _ _ _ _ _)
   |(with_reducible exact impl_CrossingsOf.mono _ _ _ _ _ _)
   |(with_reducible exact impl_IsWay.mono _ _ _ _ _)
   |(with_reducible exact impl_MirrorWay.mono _ _ _ _ _)
   |(with_reducible exact impl_PartsOfWay.mono _ _ _ _ _)
   |(with_reducible exact impl_PlainWay.mono _ _ _ _)
   |(with_reducible exact impl_ReadWay.mono _ _)
   |(with_reducible exact impl_SameWay.mono _ _ _)
   |(with_reducible exact impl_WayFault.mono _ _ _ _ _)
   |(with_reducible exact impl_WayText.mono _ _ _ _ _)
   |(with_reducible exact laws_f6lists.mono _ _ _)
   |(with_reducible exact spec_DrawMirrorWay.mono _ _)
   |(with_reducible exact spec_DrawReadWay.mono _ _)
   |(with_reducible exact spec_DrawSameWay.mono _ _)
   |(with_reducible exact spec_IsWay.mono _ _ _ _ _)
   |(with_reducible exact spec_MirrorWay.mono _ _ _ _ _)
   |(with_reducible exact spec_PartsOfWay.mono _ _ _ _ _)
   |(with_reducible exact spec_PlainWay.mono _ _ _ _)
   |(with_reducible exact spec_ReadWay.mono _ _)
   |(with_reducible exact spec_SameWay.mono _ _ _)
   |(with_reducible exact spec_WayFault.mono _ _ _ _ _)
   |(with_reducible exact spec_WayText.mono _ _ _ _ _)
   |(with_reducible exact LeO.refl _)
   |(with_reducible exact LeO.none _)
   |(with_reducible refine LeO.ite ?_ ?_)
   |(with_reducible refine LeO.bind ?_ (fun _=>?_))
   |exact LeO.none _
   |refine LeO.ite ?_ ?_
   |refine LeO.bind ?_ (fun _=>?_)
theorem undef_no {b:Bool} (h:some undef=some (Value.bool b)):False:=by first|cases h|(unfold undef at h;cases h)|simp[undef]at h
set_option maxHeartbeats 8000000 in
set_option maxRecDepth 100000 in
theorem laws_FnWays.calls (k:Nat) (A0:Option Addr) (c0:Nat) (l0:List Int) (r:Bool) (w:World) (nN:Kd.C (Kd.int .u8) w A0 l0.length l0) (nG:l0.length≤c0) (h:laws_FnWays.f k l0=some r) (hT:LwT w):
  Calls Tryz.prog 3 #[.slice A0 l0.length c0] w fun e w'=>e= .returned (.bool r)∧Below w.heap.size w w':=by
 have HT:=A' hT;clear hT;have pS:=Tryz.underlying25;have kN:=A' nN;have kS:=A' nG;clear nN nG;have HB:=A' (Below.refl w.heap.size w);have H:((laws_f6big.f l0).bind fun iV=>(if iV=true then(some true)else((spec_DrawMirrorWay.f k l0).bind fun aB=>((impl_MirrorWay.f k aB.1 aB.2.1 aB.2.2.1 aB.2.2.2).bind fun bO=>((spec_MirrorWay.f k aB.1 aB.2.1 aB.2.2.1 aB.2.2.2).bind fun fU=>((impl_WayFault.f k aB.1 aB.2.1 aB.2.2.1 aB.2.2.2).bind fun bU=>((spec_WayFault.f k aB.1 aB.2.1 aB.2.2.1 aB.2.2.2).bind fun cP=>((impl_IsWay.f k aB.1 aB.2.1 aB.2.2.1 aB.2.2.2).bind fun bN=>((spec_IsWay.f k aB.1 aB.2.1 aB.2.2.1 aB.2.2.2).bind fun fP=>((impl_PlainWay.f k aB.1 aB.2.1 aB.2.2.1).bind fun cC=>((spec_PlainWay.f k aB.1 aB.2.1 aB.2.2.1).bind fun cA=>((impl_PartsOfWay.f k aB.1 aB.2.1 aB.2.2.1 aB.2.2.2).bind fun fT=>((spec_PartsOfWay.f k aB.1 aB.2.1 aB.2.2.1 aB.2.2.2).bind fun bZ=>((impl_WayText.f k aB.1 aB.2.1 aB.2.2.1 aB.2.2.2).bind fun bG=>((impl_ReadWay.f k bG).bind fun fS=>((spec_DrawReadWay.f k l0).bind fun cL=>((impl_ReadWay.f k cL).bind fun cE=>((spec_ReadWay.f k cL).bind fun cF=>((spec_DrawSameWay.f k l0).bind fun bE=>(if bO.2=fU.2 then((spec_SameWay.f k bO.1 fU.1).bind fun hE=>(if hE=true then(if bU.2.2=cP.2.2 then(if bU.1.toList=cP.1.toList then(if bU.2.1=cP.2.1 then(if bN.2=fP.2 then(if(bN.1 != fP.1)=true then(none)else(if cC.2=cA.2 then((spec_SameWay.f k cC.1 cA.1).bind fun fV=>(if fV=true then(if fT.2=bZ.2 then((laws_f6lists.f k fT.1 bZ.1).bind fun eN=>(if eN=true then((spec_WayText.f k aB.1 aB.2.1 aB.2.2.1 aB.2.2.2).bind fun bX=>(if bG.toList=bX.toList then(if bG.toList=([]:List UInt8)then(if(cE.2 != cF.2)=true then(none)else((spec_SameWay.f k cE.1 cF.1).bind fun cI=>(if cI=true then((impl_SameWay.f k bE.1 bE.2).bind fun bS=>((spec_SameWay.f k bE.1 bE.2).bind fun bQ=>(laws_FnWays.j0 k aB.2.2.2 bO.1 bO.2 bU.1 bN.1 bN.2 cC.2 cA.1 bZ.1 (bS != bQ) aB.1 aB.2.1 aB.2.2.1)))else(none))))else(if fS.2=true then((spec_SameWay.f k fS.1 aB.2.2.2).bind fun cH=>(if cH=true then(if(cE.2 != cF.2)=true then(none)else((spec_SameWay.f k cE.1 cF.1).bind fun bW=>(if bW=true then((impl_SameWay.f k bE.1 bE.2).bind fun bM=>((spec_SameWay.f k bE.1 bE.2).bind fun bL=>(laws_FnWays.j0 k aB.2.2.2 bO.1 bO.2 bU.1 bN.1 bN.2 cC.2 cA.1 bZ.1 (bM != bL) aB.1 aB.2.1 aB.2.2.1)))else(none))))else(none)))else(none)))else(none)))else(none)))else(none))else(none)))else(none)))else(none))else(none))else(none))else(none))else(none)))else(none)))))))))))))))))))))=some r:=h;clear h;replace H:=Option.bind_eq_some_iff.mp H;obtain⟨iV,lF,H⟩:=H;(try dsimp only at H);have A2:=A' lF;clear lF
 by_cases c3:iV=true
 ·subst c3;have H1:(some true)=some r:=by rw[if_pos rfl]at H;exact H
  clear H;have H:=H1;clear H1;obtain rfl:=Option.some.inj H;go_enter Tryz.func3,Tryz.ntmps3;go_wp2_with (first|((with_reducible refine gate_callee (f:=4) rfl ?_);refine goesL_ (some 48) rfl rfl Tryz.func4 (by kernel_rfl) rfl #[.slice A0 l0.length c0] rfl (by(try simp only[List.map_toArray,List.map_cons,List.map_nil]);first|done|rfl|(simp only[List.length_drop,List.length_take];rfl)) ?_;(with_reducible refine(laws_f6big.calls _ _ l0 true _ ?aI ?aH A2.out).mono ?_);(case aI=>exact qT kN.out);(case aH=>exact kS.out);rintro e w' ⟨rfl,⟨nd,rfl⟩⟩;refine⟨_,rfl,?_⟩));go_ret;exact⟨qE,qK0 HB.out⟩
 ·replace c3:=Bool.eq_false_iff.mpr c3;subst c3;have H1:((spec_DrawMirrorWay.f k l0).bind fun aB=>((impl_MirrorWay.f k aB.1 aB.2.1 aB.2.2.1 aB.2.2.2).bind fun bO=>((spec_MirrorWay.f k aB.1 aB.2.1 aB.2.2.1 aB.2.2.2).bind fun fU=>((impl_WayFault.f k aB.1 aB.2.1 aB.2.2.1 aB.2.2.2).bind fun bU=>((spec_WayFault.f k aB.1 aB.2.1 aB.2.2.1 aB.2.2.2).bind fun cP=>((impl_IsWay.f k aB.1 aB.2.1 aB.2.2.1 aB.2.2.2).bind fun bN=>((spec_IsWay.f k aB.1 aB.2.1 aB.2.2.1 aB.2.2.2).bind fun fP=>((impl_PlainWay.f k aB.1 aB.2.1 aB.2.2.1).bind fun cC=>((spec_PlainWay.f k aB.1 aB.2.1 aB.2.2.1).bind fun cA=>((impl_PartsOfWay.f k aB.1 aB.2.1 aB.2.2.1 aB.2.2.2).bind fun fT=>((spec_PartsOfWay.f k aB.1 aB.2.1 aB.2.2.1 aB.2.2.2).bind fun bZ=>((impl_WayText.f k aB.1 aB.2.1 aB.2.2.1 aB.2.2.2).bind fun bG=>((impl_ReadWay.f k bG).bind fun fS=>((spec_DrawReadWay.f k l0).bind fun cL=>((impl_ReadWay.f k cL).bind fun cE=>((spec_ReadWay.f k cL).bind fun cF=>((spec_DrawSameWay.f k l0).bind fun bE=>(if bO.2=fU.2 then((spec_SameWay.f k bO.1 fU.1).bind fun hE=>(if hE=true then(if bU.2.2=cP.2.2 then(if bU.1.toList=cP.1.toList then(if bU.2.1=cP.2.1 then(if bN.2=fP.2 then(if(bN.1 != fP.1)=true then(none)else(if cC.2=cA.2 then((spec_SameWay.f k cC.1 cA.1).bind fun fV=>(if fV=true then(if fT.2=bZ.2 then((laws_f6lists.f k fT.1 bZ.1).bind fun eN=>(if eN=true then((spec_WayText.f k aB.1 aB.2.1 aB.2.2.1 aB.2.2.2).bind fun bX=>(if bG.toList=bX.toList then(if bG.toList=([]:List UInt8)then(if(cE.2 != cF.2)=true then(none)else((spec_SameWay.f k cE.1 cF.1).bind fun cI=>(if cI=true then((impl_SameWay.f k bE.1 bE.2).bind fun bS=>((spec_SameWay.f k bE.1 bE.2).bind fun bQ=>(laws_FnWays.j0 k aB.2.2.2 bO.1 bO.2 bU.1 bN.1 bN.2 cC.2 cA.1 bZ.1 (bS != bQ) aB.1 aB.2.1 aB.2.2.1)))else(none))))else(if fS.2=true then((spec_SameWay.f k fS.1 aB.2.2.2).bind fun cH=>(if cH=true then(if(cE.2 != cF.2)=true then(none)else((spec_SameWay.f k cE.1 cF.1).bind fun bW=>(if bW=true then((impl_SameWay.f k bE.1 bE.2).bind fun bM=>((spec_SameWay.f k bE.1 bE.2).bind fun bL=>(laws_FnWays.j0 k aB.2.2.2 bO.1 bO.2 bU.1 bN.1 bN.2 cC.2 cA.1 bZ.1 (bM != bL) aB.1 aB.2.1 aB.2.2.1)))else(none))))else(none)))else(none)))else(none)))else(none)))else(none))else(none)))else(none)))else(none))else(none))else(none))else(none))else(none)))else(none)))))))))))))))))))=some r:=by rw[if_neg (show¬(false=true) by decide)]at H;exact H
  clear H;have H:=H1;clear H1;replace H:=Option.bind_eq_some_iff.mp H;obtain⟨⟨aE,aF,aG,aL⟩,mT,H⟩:=H;(try dsimp only at H);have A4:=A' mT;clear mT;replace H:=Option.bind_eq_some_iff.mp H;obtain⟨⟨aX,aY⟩,nJ,H⟩:=H;(try dsimp only at H);have A5:=A' nJ;clear nJ;replace H:=Option.bind_eq_some_iff.mp H;obtain⟨⟨iU,hW⟩,nM,H⟩:=H;(try dsimp only at H);have A6:=A' nM;clear nM;replace H:=Option.bind_eq_some_iff.mp H;obtain⟨⟨bK,hP,hM⟩,lD,H⟩:=H;(try dsimp only at H);have A7:=A' lD;clear lD;replace H:=Option.bind_eq_some_iff.mp H;obtain⟨⟨hL,gS,hO⟩,nB,H⟩:=H;(try dsimp only at H);have A8:=A' nB;clear nB;replace H:=Option.bind_eq_some_iff.mp H;obtain⟨⟨bH,bD⟩,lE,H⟩:=H;(try dsimp only at H);have A9:=A' lE;clear lE;replace H:=Option.bind_eq_some_iff.mp H;obtain⟨⟨gI,gM⟩,jW,H⟩:=H;(try dsimp only at H);have pK:=A' jW;clear jW;replace H:=Option.bind_eq_some_iff.mp H;obtain⟨⟨hU,bA⟩,jF,H⟩:=H;(try dsimp only at H);have pP:=A' jF;clear jF;replace H:=Option.bind_eq_some_iff.mp H;obtain⟨⟨aU,hH⟩,kM,H⟩:=H;(try dsimp only at H);have oD:=A' kM;clear kM;replace H:=Option.bind_eq_some_iff.mp H;obtain⟨⟨hD,gF⟩,jT,H⟩:=H;(try dsimp only at H);have oZ:=A' jT;clear jT;replace H:=Option.bind_eq_some_iff.mp H;obtain⟨⟨aW,gC⟩,kT,H⟩:=H;(try dsimp only at H);have pE:=A' kT;clear kT;replace H:=Option.bind_eq_some_iff.mp H;obtain⟨bG,kH,H⟩:=H;(try dsimp only at H);have oK:=A' kH;clear kH;replace H:=Option.bind_eq_some_iff.mp H;obtain⟨⟨gE,gZ⟩,kP,H⟩:=H;(try dsimp only at H);have oX:=A' kP;clear kP;replace H:=Option.bind_eq_some_iff.mp H;obtain⟨cL,jS,H⟩:=H;(try dsimp only at H);have oM:=A' jS;clear jS;replace H:=Option.bind_eq_some_iff.mp H;obtain⟨⟨cQ,bT⟩,jM,H⟩:=H;(try dsimp only at H);have nY:=A' jM;clear jM;replace H:=Option.bind_eq_some_iff.mp H;obtain⟨⟨cN,bV⟩,kY,H⟩:=H;(try dsimp only at H);have nQ:=A' kY;clear kY;replace H:=Option.bind_eq_some_iff.mp H;obtain⟨⟨bB,bC⟩,jG,H⟩:=H;(try dsimp only at H);have lF:=A' jG;clear jG;have iW:=A' H;clear H;go_enter Tryz.func3,Tryz.ntmps3;go_upto_region 20 with (first|((with_reducible refine gate_callee (f:=4) rfl ?_);refine goesL_ (some 48) rfl rfl Tryz.func4 (by kernel_rfl) rfl #[.slice A0 l0.length c0] rfl (by(try simp only[List.map_toArray,List.map_cons,List.map_nil]);first|done|rfl|(simp only[List.length_drop,List.length_take];rfl)) ?_;(with_reducible refine(laws_f6big.calls _ _ l0 false _ ?aI ?aH A2.out).mono ?_);(case aI=>exact qT kN.out);(case aH=>exact kS.out);rintro e w' ⟨rfl,⟨nd,rfl⟩⟩;refine⟨_,rfl,?_⟩)|((with_reducible refine gate_callee (f:=5) rfl ?_);refine goesL_ (some 51) rfl rfl Tryz.func5 (by kernel_rfl) rfl #[.slice A0 l0.length c0] rfl (by(try simp only[List.map_toArray,List.map_cons,List.map_nil]);first|done|rfl|(simp only[List.length_drop,List.length_take];rfl)) ?_;(with_reducible refine(spec_DrawMirrorWay.calls k _ _ l0 aE aF aG aL _ ?aI ?aH A4.out).mono ?_);(case aI=>exact qT kN.out);(case aH=>exact kS.out);rintro e qL ⟨nZ,rfl,aV,hb⟩;refine⟨_,rfl,?_⟩;have n0_:=A' (Kd.R_lower aV (V' (qK0 HB.out)));have n1_:=A' (W' (qK0 HB.out) hb);clear HB;have aD:=n0_;have HB:=n1_;clear n0_ n1_;(try clear hb);(try clear hb2);(try clear hk);(try clear hi);(try clear aV))|((with_reducible refine gate_dst (N:=3) rfl ?_);(try(refine gate_guard (by rfl) ?_;dsimp only));refine box_event ?hg (N:=3) ?hd (cs:=#[.int .i64 0,.int .i64 0,.bool false]) (t:=25) ?hr ?_;(case hd=>rfl);(case hg=>rfl);(case hr=>first|(go_simp;done)|(go_simp;rfl));intro aC hg lP hbox hb;have n0_:=A' (L' (qR aD.out) hb);have n1_:=A' (W' (qK0 HB.out) hb);have n2_:=A' (hbox);have n3_:=A' ((by rw[hg];exact(V' (qK0 HB.out)):w.heap.size≤aC));have n4_:=A' ((by rw[hg];exact(V' (qK0 HB.out)):w.heap.size≤aC));clear aD;clear HB;have aD:=n0_;have HB:=n1_;have aA:=n2_;have mW:=n3_;have aM:=n4_;clear n0_ n1_ n2_ n3_ n4_;clear hb hbox hg;have eQ:lP.cell? ⟨aC,0,none⟩=some (.int .i64 0):=(N' aA.out 0).trans rfl;have dW:lP.cell? ⟨aC,1,none⟩=some (.int .i64 0):=(N' aA.out 1).trans rfl;have fD:lP.cell? ⟨aC,2,none⟩=some (.bool false):=(N' aA.out 2).trans rfl;have fH:=Y' aA.out 0;have eL:=Y' aA.out 1;have dB:=Y' aA.out 2;obtain⟨bR,bP,lR⟩:=Kd.R_slice aD.out;subst lR)|((with_reducible refine gate_callee (f:=6) rfl ?_);refine goesL_ (some 57) rfl rfl Tryz.func6 (by kernel_rfl) rfl #[.agg #[.int .i64 aE,.int .i64 aF,.bool aG],.slice bR aL.length bP] rfl (by(try simp only[List.map_toArray,List.map_cons,List.map_nil]);first|done|rfl|(simp only[List.length_drop,List.length_take];rfl)) ?_;(with_reducible refine(impl_MirrorWay.calls k aE aF aG _ _ aL aX aY _ ?aI ?aH A5.out).mono ?_);(case aI=>refine(Kd.R_reads' (e:=51) (base:=w.heap.size) (ok:=fun k_=>True) (n:=aL.length) (c:=bP) ?_).2.2;exact(by(with_reducible repeat(first|apply B'|apply C'|apply D'));exact(Q' (M' (p:=⟨aC,2,none⟩) (M' (p:=⟨aC,1,none⟩) (M' (p:=⟨aC,0,none⟩) (P' aD.out aA.out (by decide)) (fun _ hk=>hk.2) (.int .i64 aE)) (fun _ hk=>hk.2) (.int .i64 aF)) (fun _ hk=>hk.2) (.bool aG)) (fun _ h_=>h_.1))));(case aH=>exact(Kd.R_reads' aD.out).2.1);rintro e mN ⟨fQ,rfl,aV,hb⟩;refine⟨_,rfl,?_⟩;have n0_:=A' (Kd.R_elder' (by(with_reducible repeat(first|apply B'|apply C'|apply D'));exact(Q' (M' (p:=⟨aC,2,none⟩) (M' (p:=⟨aC,1,none⟩) (M' (p:=⟨aC,0,none⟩) (P' aD.out aA.out (by decide)) (fun _ hk=>hk.2) (.int .i64 aE)) (fun _ hk=>hk.2) (.int .i64 aF)) (fun _ hk=>hk.2) (.bool aG)) (fun _ h_=>h_.1))) (Kd.R_base aV) hb);have n1_:=A' (Kd.R_lower (U' aV (Kd.R_lt (by(with_reducible repeat(first|apply B'|apply C'|apply D'));exact(Q' (M' (p:=⟨aC,2,none⟩) (M' (p:=⟨aC,1,none⟩) (M' (p:=⟨aC,0,none⟩) (P' aD.out aA.out (by decide)) (fun _ hk=>hk.2) (.int .i64 aE)) (fun _ hk=>hk.2) (.int .i64 aF)) (fun _ hk=>hk.2) (.bool aG)) (fun _ h_=>h_.1))))) (V' (qK1 HB.out aM.out)));have n2_:=A' (O' (g:=aC) (o:=.cells #[.int .i64 aE,.int .i64 aF,.bool aG] 25 (0,0)) (by(with_reducible repeat(first|refine G' ?_ _|refine I' ?_|refine hA' ?_ _));refine blk_put (cs:=#[.int .i64 aE,.int .i64 aF,.bool false]) ?_ 2 _ rfl;(with_reducible repeat(first|refine G' ?_ _|refine I' ?_|refine hA' ?_ _));refine blk_put (cs:=#[.int .i64 aE,.int .i64 0,.bool false]) ?_ 1 _ rfl;(with_reducible repeat(first|refine G' ?_ _|refine I' ?_|refine hA' ?_ _));refine blk_put (cs:=#[.int .i64 0,.int .i64 0,.bool false]) ?_ 0 _ rfl;(with_reducible repeat(first|refine G' ?_ _|refine I' ?_|refine hA' ?_ _));exact aA.out) hb);have n3_:=A' (W' (qK1 HB.out aM.out) hb);clear aD;clear aA;clear HB;have aD:=n0_;have aJ:=n1_;have aA:=n2_;have HB:=n3_;clear n0_ n1_ n2_ n3_;(try clear hb);(try clear hb2);(try clear hk);(try clear hi);(try clear aV);have cZ:mN.cell? ⟨aC,0,none⟩=some (.int .i64 aE):=(N' aA.out 0).trans rfl;have dQ:mN.cell? ⟨aC,1,none⟩=some (.int .i64 aF):=(N' aA.out 1).trans rfl;have eY:mN.cell? ⟨aC,2,none⟩=some (.bool aG):=(N' aA.out 2).trans rfl;have fK:=Y' aA.out 0;have cV:=Y' aA.out 1;have cW:=Y' aA.out 2)|((with_reducible refine gate_callee (f:=7) rfl ?_);refine goesL_ (some 63) rfl rfl Tryz.func7 (by kernel_rfl) rfl #[.agg #[.int .i64 aE,.int .i64 aF,.bool aG],.slice bR aL.length bP] rfl (by(try simp only[List.map_toArray,List.map_cons,List.map_nil]);first|done|rfl|(simp only[List.length_drop,List.length_take];rfl)) ?_;(with_reducible refine(spec_MirrorWay.calls k aE aF aG _ _ aL iU hW _ ?aI ?aH A6.out).mono ?_);(case aI=>repeat(first|exact(Kd.R_reads' aD.out).2.2|(with_reducible refine R' ?_ _)|(with_reducible refine S' ?_ _)|(with_reducible refine T' ?_)));(case aH=>exact(Kd.R_reads' aD.out).2.1);rintro e lV ⟨nV,rfl,aV,hb⟩;refine⟨_,rfl,?_⟩;have n0_:=A' (Kd.R_elder' (qR aD.out) (Kd.R_base aV) hb);have n1_:=A' (Kd.R_elder' (qR aJ.out) (Kd.R_base aV) hb);have n2_:=A' (Kd.R_lower (U' (U' aV (Kd.R_lt (qR aD.out))) (Kd.R_lt (qR aJ.out))) (V' (qK1 HB.out aM.out)));have n3_:=A' (O' (g:=aC) (o:=.cells #[.int .i64 aE,.int .i64 aF,.bool aG] 25 (0,0)) (qB aA.out) hb);have n4_:=A' (W' (qK1 HB.out aM.out) hb);clear aD;clear aJ;clear aA;clear HB;have aD:=n0_;have aJ:=n1_;have aK:=n2_;have aA:=n3_;have HB:=n4_;clear n0_ n1_ n2_ n3_ n4_;(try clear hb);(try clear hb2);(try clear hk);(try clear hi);(try clear aV);have eS:lV.cell? ⟨aC,0,none⟩=some (.int .i64 aE):=(N' aA.out 0).trans rfl;have eI:lV.cell? ⟨aC,1,none⟩=some (.int .i64 aF):=(N' aA.out 1).trans rfl;have eA:lV.cell? ⟨aC,2,none⟩=some (.bool aG):=(N' aA.out 2).trans rfl;have eR:=Y' aA.out 0;have dK:=Y' aA.out 1;have fJ:=Y' aA.out 2)|((with_reducible refine gate_callee (f:=8) rfl ?_);refine goesL_ (some 69) rfl rfl Tryz.func8 (by kernel_rfl) rfl #[.agg #[.int .i64 aE,.int .i64 aF,.bool aG],.slice bR aL.length bP] rfl (by(try simp only[List.map_toArray,List.map_cons,List.map_nil]);first|done|rfl|(simp only[List.length_drop,List.length_take];rfl)) ?_;(with_reducible refine(impl_WayFault.calls k aE aF aG _ _ aL bK hP hM _ ?aI ?aH A7.out).mono ?_);(case aI=>repeat(first|exact(Kd.R_reads' aD.out).2.2|(with_reducible refine R' ?_ _)|(with_reducible refine S' ?_ _)|(with_reducible refine T' ?_)));(case aH=>exact(Kd.R_reads' aD.out).2.1);rintro e lW ⟨rfl,hb⟩;refine⟨_,rfl,?_⟩;replace aD:=A' (L' (qR aD.out) hb);replace aJ:=A' (L' (qR aJ.out) hb);replace aK:=A' (L' (qR aK.out) hb);replace aA:=A' (O' (g:=aC) (o:=.cells #[.int .i64 aE,.int .i64 aF,.bool aG] 25 (0,0)) (qB aA.out) hb);replace HB:=A' (W' (qK1 HB.out aM.out) hb);(try clear hb);(try clear hb2);(try clear hk);(try clear hi);have fA:lW.cell? ⟨aC,0,none⟩=some (.int .i64 aE):=(N' aA.out 0).trans rfl;have dG:lW.cell? ⟨aC,1,none⟩=some (.int .i64 aF):=(N' aA.out 1).trans rfl;have dM:lW.cell? ⟨aC,2,none⟩=some (.bool aG):=(N' aA.out 2).trans rfl;have eO:=Y' aA.out 0;have fO:=Y' aA.out 1;have fC:=Y' aA.out 2)|((with_reducible refine gate_callee (f:=9) rfl ?_);refine goesL_ (some 76) rfl rfl Tryz.func9 (by kernel_rfl) rfl #[.agg #[.int .i64 aE,.int .i64 aF,.bool aG],.slice bR aL.length bP] rfl (by(try simp only[List.map_toArray,List.map_cons,List.map_nil]);first|done|rfl|(simp only[List.length_drop,List.length_take];rfl)) ?_;(with_reducible refine(spec_WayFault.calls k aE aF aG _ _ aL hL gS hO _ ?aI ?aH A8.out).mono ?_);(case aI=>repeat(first|exact(Kd.R_reads' aD.out).2.2|(with_reducible refine R' ?_ _)|(with_reducible refine S' ?_ _)|(with_reducible refine T' ?_)));(case aH=>exact(Kd.R_reads' aD.out).2.1);rintro e lG ⟨rfl,hb⟩;refine⟨_,rfl,?_⟩;replace aD:=A' (L' (qR aD.out) hb);replace aJ:=A' (L' (qR aJ.out) hb);replace aK:=A' (L' (qR aK.out) hb);replace aA:=A' (O' (g:=aC) (o:=.cells #[.int .i64 aE,.int .i64 aF,.bool aG] 25 (0,0)) (qB aA.out) hb);replace HB:=A' (W' (qK1 HB.out aM.out) hb);(try clear hb);(try clear hb2);(try clear hk);(try clear hi);have eK:lG.cell? ⟨aC,0,none⟩=some (.int .i64 aE):=(N' aA.out 0).trans rfl;have eW:lG.cell? ⟨aC,1,none⟩=some (.int .i64 aF):=(N' aA.out 1).trans rfl;have eX:lG.cell? ⟨aC,2,none⟩=some (.bool aG):=(N' aA.out 2).trans rfl;have dD:=Y' aA.out 0;have dJ:=Y' aA.out 1;have fN:=Y' aA.out 2)|((with_reducible refine gate_callee (f:=10) rfl ?_);refine goesL_ (some 83) rfl rfl Tryz.func10 (by kernel_rfl) rfl #[.agg #[.int .i64 aE,.int .i64 aF,.bool aG],.slice bR aL.length bP] rfl (by(try simp only[List.map_toArray,List.map_cons,List.map_nil]);first|done|rfl|(simp only[List.length_drop,List.length_take];rfl)) ?_;(with_reducible refine(impl_IsWay.calls k aE aF aG _ _ aL bH bD _ ?aI ?aH A9.out).mono ?_);(case aI=>repeat(first|exact(Kd.R_reads' aD.out).2.2|(with_reducible refine R' ?_ _)|(with_reducible refine S' ?_ _)|(with_reducible refine T' ?_)));(case aH=>exact(Kd.R_reads' aD.out).2.1);rintro e lS ⟨rfl,hb⟩;refine⟨_,rfl,?_⟩;replace aD:=A' (L' (qR aD.out) hb);replace aJ:=A' (L' (qR aJ.out) hb);replace aK:=A' (L' (qR aK.out) hb);replace aA:=A' (O' (g:=aC) (o:=.cells #[.int .i64 aE,.int .i64 aF,.bool aG] 25 (0,0)) (qB aA.out) hb);replace HB:=A' (W' (qK1 HB.out aM.out) hb);(try clear hb);(try clear hb2);(try clear hk);(try clear hi);have fG:lS.cell? ⟨aC,0,none⟩=some (.int .i64 aE):=(N' aA.out 0).trans rfl;have cX:lS.cell? ⟨aC,1,none⟩=some (.int .i64 aF):=(N' aA.out 1).trans rfl;have dP:lS.cell? ⟨aC,2,none⟩=some (.bool aG):=(N' aA.out 2).trans rfl;have eB:=Y' aA.out 0;have dS:=Y' aA.out 1;have eP:=Y' aA.out 2)|((with_reducible refine gate_callee (f:=11) rfl ?_);refine goesL_ (some 89) rfl rfl Tryz.func11 (by kernel_rfl) rfl #[.agg #[.int .i64 aE,.int .i64 aF,.bool aG],.slice bR aL.length bP] rfl (by(try simp only[List.map_toArray,List.map_cons,List.map_nil]);first|done|rfl|(simp only[List.length_drop,List.length_take];rfl)) ?_;(with_reducible refine(spec_IsWay.calls k aE aF aG _ _ aL gI gM _ ?aI ?aH pK.out).mono ?_);(case aI=>repeat(first|exact(Kd.R_reads' aD.out).2.2|(with_reducible refine R' ?_ _)|(with_reducible refine S' ?_ _)|(with_reducible refine T' ?_)));(case aH=>exact(Kd.R_reads' aD.out).2.1);rintro e lO ⟨rfl,hb⟩;refine⟨_,rfl,?_⟩;replace aD:=A' (L' (qR aD.out) hb);replace aJ:=A' (L' (qR aJ.out) hb);replace aK:=A' (L' (qR aK.out) hb);replace aA:=A' (O' (g:=aC) (o:=.cells #[.int .i64 aE,.int .i64 aF,.bool aG] 25 (0,0)) (qB aA.out) hb);replace HB:=A' (W' (qK1 HB.out aM.out) hb);(try clear hb);(try clear hb2);(try clear hk);(try clear hi);have eE:lO.cell? ⟨aC,0,none⟩=some (.int .i64 aE):=(N' aA.out 0).trans rfl;have dI:lO.cell? ⟨aC,1,none⟩=some (.int .i64 aF):=(N' aA.out 1).trans rfl;have dF:lO.cell? ⟨aC,2,none⟩=some (.bool aG):=(N' aA.out 2).trans rfl;have dX:=Y' aA.out 0;have dN:=Y' aA.out 1;have dV:=Y' aA.out 2)|((with_reducible refine gate_callee (f:=12) rfl ?_);refine goesL_ (some 94) rfl rfl Tryz.func12 (by kernel_rfl) rfl #[.agg #[.int .i64 aE,.int .i64 aF,.bool aG]] rfl (by(try simp only[List.map_toArray,List.map_cons,List.map_nil]);first|done|rfl|(simp only[List.length_drop,List.length_take];rfl)) ?_;(with_reducible refine(impl_PlainWay.calls k aE aF aG hU bA _ pP.out).mono ?_);rintro e mK ⟨nS,rfl,aV,hb⟩;refine⟨_,rfl,?_⟩;have n0_:=A' (Kd.R_elder' (qR aD.out) (Kd.R_base aV) hb);have n1_:=A' (Kd.R_elder' (qR aJ.out) (Kd.R_base aV) hb);have n2_:=A' (Kd.R_elder' (qR aK.out) (Kd.R_base aV) hb);have n3_:=A' (Kd.R_lower (U' (U' (U' aV (Kd.R_lt (qR aD.out))) (Kd.R_lt (qR aJ.out))) (Kd.R_lt (qR aK.out))) (V' (qK1 HB.out aM.out)));have n4_:=A' (O' (g:=aC) (o:=.cells #[.int .i64 aE,.int .i64 aF,.bool aG] 25 (0,0)) (qB aA.out) hb);have n5_:=A' (W' (qK1 HB.out aM.out) hb);clear aD;clear aJ;clear aK;clear aA;clear HB;have aD:=n0_;have aJ:=n1_;have aK:=n2_;have aN:=n3_;have aA:=n4_;have HB:=n5_;clear n0_ n1_ n2_ n3_ n4_ n5_;(try clear hb);(try clear hb2);(try clear hk);(try clear hi);(try clear aV);have fM:mK.cell? ⟨aC,0,none⟩=some (.int .i64 aE):=(N' aA.out 0).trans rfl;have fI:mK.cell? ⟨aC,1,none⟩=some (.int .i64 aF):=(N' aA.out 1).trans rfl;have dR:mK.cell? ⟨aC,2,none⟩=some (.bool aG):=(N' aA.out 2).trans rfl;have dZ:=Y' aA.out 0;have fB:=Y' aA.out 1;have dL:=Y' aA.out 2)|((with_reducible refine gate_callee (f:=13) rfl ?_);refine goesL_ (some 99) rfl rfl Tryz.func13 (by kernel_rfl) rfl #[.agg #[.int .i64 aE,.int .i64 aF,.bool aG]] rfl (by(try simp only[List.map_toArray,List.map_cons,List.map_nil]);first|done|rfl|(simp only[List.length_drop,List.length_take];rfl)) ?_;(with_reducible refine(spec_PlainWay.calls k aE aF aG aU hH _ oD.out).mono ?_);rintro e lK ⟨gB,rfl,aV,hb⟩;refine⟨_,rfl,?_⟩;have n0_:=A' (Kd.R_elder' (qR aD.out) (Kd.R_base aV) hb);have n1_:=A' (Kd.R_elder' (qR aJ.out) (Kd.R_base aV) hb);have n2_:=A' (Kd.R_elder' (qR aK.out) (Kd.R_base aV) hb);have n3_:=A' (Kd.R_elder' (qR aN.out) (Kd.R_base aV) hb);have n4_:=A' (Kd.R_lower (U' (U' (U' (U' aV (Kd.R_lt (qR aD.out))) (Kd.R_lt (qR aJ.out))) (Kd.R_lt (qR aK.out))) (Kd.R_lt (qR aN.out))) (V' (qK1 HB.out aM.out)));have n5_:=A' (O' (g:=aC) (o:=.cells #[.int .i64 aE,.int .i64 aF,.bool aG] 25 (0,0)) (qB aA.out) hb);have n6_:=A' (W' (qK1 HB.out aM.out) hb);clear aD;clear aJ;clear aK;clear aN;clear aA;clear HB;have aD:=n0_;have aJ:=n1_;have aK:=n2_;have aN:=n3_;have aO:=n4_;have aA:=n5_;have HB:=n6_;clear n0_ n1_ n2_ n3_ n4_ n5_ n6_;(try clear hb);(try clear hb2);(try clear hk);(try clear hi);(try clear aV);have dT:lK.cell? ⟨aC,0,none⟩=some (.int .i64 aE):=(N' aA.out 0).trans rfl;have eV:lK.cell? ⟨aC,1,none⟩=some (.int .i64 aF):=(N' aA.out 1).trans rfl;have fL:lK.cell? ⟨aC,2,none⟩=some (.bool aG):=(N' aA.out 2).trans rfl;have eT:=Y' aA.out 0;have dC:=Y' aA.out 1;have cU:=Y' aA.out 2)|((with_reducible refine gate_callee (f:=14) rfl ?_);refine goesL_ (some 105) rfl rfl Tryz.func14 (by kernel_rfl) rfl #[.agg #[.int .i64 aE,.int .i64 aF,.bool aG],.slice bR aL.length bP] rfl (by(try simp only[List.map_toArray,List.map_cons,List.map_nil]);first|done|rfl|(simp only[List.length_drop,List.length_take];rfl)) ?_;(with_reducible refine(impl_PartsOfWay.calls k aE aF aG _ _ aL hD gF _ ?aI ?aH oZ.out).mono ?_);(case aI=>repeat(first|exact(Kd.R_reads' aD.out).2.2|(with_reducible refine R' ?_ _)|(with_reducible refine S' ?_ _)|(with_reducible refine T' ?_)));(case aH=>exact(Kd.R_reads' aD.out).2.1);rintro e mL ⟨pT,rfl,aV,hb⟩;refine⟨_,rfl,?_⟩;have n0_:=A' (L' (qR aD.out) hb);have n1_:=A' (L' (qR aJ.out) hb);have n2_:=A' (L' (qR aK.out) hb);have n3_:=A' (L' (qR aN.out) hb);have n4_:=A' (L' (qR aO.out) hb);have n5_:=A' (Kd.S_lower aV (V' (qK1 HB.out aM.out)));have n6_:=A' (O' (g:=aC) (o:=.cells #[.int .i64 aE,.int .i64 aF,.bool aG] 25 (0,0)) (qB aA.out) hb);have n7_:=A' (W' (qK1 HB.out aM.out) hb);clear aD;clear aJ;clear aK;clear aN;clear aO;clear aA;clear HB;have aD:=n0_;have aJ:=n1_;have aK:=n2_;have aN:=n3_;have aO:=n4_;have aP:=n5_;have aA:=n6_;have HB:=n7_;clear n0_ n1_ n2_ n3_ n4_ n5_ n6_ n7_;(try clear hb);(try clear hb2);(try clear hk);(try clear hi);(try clear aV);have dO:mL.cell? ⟨aC,0,none⟩=some (.int .i64 aE):=(N' aA.out 0).trans rfl;have cY:mL.cell? ⟨aC,1,none⟩=some (.int .i64 aF):=(N' aA.out 1).trans rfl;have eH:mL.cell? ⟨aC,2,none⟩=some (.bool aG):=(N' aA.out 2).trans rfl;have eJ:=Y' aA.out 0;have eZ:=Y' aA.out 1;have fE:=Y' aA.out 2)|((with_reducible refine gate_callee (f:=15) rfl ?_);refine goesL_ (some 111) rfl rfl Tryz.func15 (by kernel_rfl) rfl #[.agg #[.int .i64 aE,.int .i64 aF,.bool aG],.slice bR aL.length bP] rfl (by(try simp only[List.map_toArray,List.map_cons,List.map_nil]);first|done|rfl|(simp only[List.length_drop,List.length_take];rfl)) ?_;(with_reducible refine(spec_PartsOfWay.calls k aE aF aG _ _ aL aW gC _ ?aI ?aH pE.out).mono ?_);(case aI=>repeat(first|exact(Kd.R_reads' aD.out).2.2|(with_reducible refine R' ?_ _)|(with_reducible refine S' ?_ _)|(with_reducible refine T' ?_)));(case aH=>exact(Kd.R_reads' aD.out).2.1);rintro e mF ⟨iX,rfl,aV,hb⟩;refine⟨_,rfl,?_⟩;have n0_:=A' (L' (qR aD.out) hb);have n1_:=A' (L' (qR aJ.out) hb);have n2_:=A' (L' (qR aK.out) hb);have n3_:=A' (L' (qR aN.out) hb);have n4_:=A' (L' (qR aO.out) hb);have n5_:=A' (Kd.S_elder' (by(with_reducible repeat(first|apply Kd.S_alloc|apply Kd.S_drewN|apply Kd.S_drew));exact aP.out) (Kd.S_base aV) hb);have n6_:=A' (Kd.S_lower (Kd.S_new' aV (Kd.S_lt (by(with_reducible repeat(first|apply Kd.S_alloc|apply Kd.S_drewN|apply Kd.S_drew));exact aP.out))) (V' (qK1 HB.out aM.out)));have n7_:=A' (O' (g:=aC) (o:=.cells #[.int .i64 aE,.int .i64 aF,.bool aG] 25 (0,0)) (qB aA.out) hb);have n8_:=A' (W' (qK1 HB.out aM.out) hb);clear aD;clear aJ;clear aK;clear aN;clear aO;clear aP;clear aA;clear HB;have aD:=n0_;have aJ:=n1_;have aK:=n2_;have aN:=n3_;have aO:=n4_;have aP:=n5_;have aQ:=n6_;have aA:=n7_;have HB:=n8_;clear n0_ n1_ n2_ n3_ n4_ n5_ n6_ n7_ n8_;(try clear hb);(try clear hb2);(try clear hk);(try clear hi);(try clear aV);have eU:mF.cell? ⟨aC,0,none⟩=some (.int .i64 aE):=(N' aA.out 0).trans rfl;have eG:mF.cell? ⟨aC,1,none⟩=some (.int .i64 aF):=(N' aA.out 1).trans rfl;have dY:mF.cell? ⟨aC,2,none⟩=some (.bool aG):=(N' aA.out 2).trans rfl;have fF:=Y' aA.out 0;have eD:=Y' aA.out 1;have dH:=Y' aA.out 2)|((with_reducible refine gate_callee (f:=16) rfl ?_);refine goesL_ (some 116) rfl rfl Tryz.func16 (by kernel_rfl) rfl #[.agg #[.int .i64 aE,.int .i64 aF,.bool aG],.slice bR aL.length bP] rfl (by(try simp only[List.map_toArray,List.map_cons,List.map_nil]);first|done|rfl|(simp only[List.length_drop,List.length_take];rfl)) ?_;(with_reducible refine(impl_WayText.calls k aE aF aG _ _ aL bG _ ?aI ?aH oK.out (HT.out.below (qK1 HB.out aM.out))).mono ?_);(case aI=>repeat(first|exact(Kd.R_reads' aD.out).2.2|(with_reducible refine R' ?_ _)|(with_reducible refine S' ?_ _)|(with_reducible refine T' ?_)));(case aH=>exact(Kd.R_reads' aD.out).2.1);rintro e qJ ⟨rfl,hb⟩;refine⟨_,rfl,?_⟩;have n0_:=A' (L' (qR aD.out) hb);have n1_:=A' (L' (qR aJ.out) hb);have n2_:=A' (L' (qR aK.out) hb);have n3_:=A' (L' (qR aN.out) hb);have n4_:=A' (L' (qR aO.out) hb);have n5_:=A' (Kd.S_below (by(with_reducible repeat(first|apply Kd.S_alloc|apply Kd.S_drewN|apply Kd.S_drew));exact aP.out) hb);have n6_:=A' (Kd.S_below (by(with_reducible repeat(first|apply Kd.S_alloc|apply Kd.S_drewN|apply Kd.S_drew));exact aQ.out) hb);have n7_:=A' (O' (g:=aC) (o:=.cells #[.int .i64 aE,.int .i64 aF,.bool aG] 25 (0,0)) (qB aA.out) hb);have n8_:=A' (W' (qK1 HB.out aM.out) hb);clear aD;clear aJ;clear aK;clear aN;clear aO;clear aP;clear aQ;clear aA;clear HB;have aD:=n0_;have aJ:=n1_;have aK:=n2_;have aN:=n3_;have aO:=n4_;have aP:=n5_;have aQ:=n6_;have aA:=n7_;have HB:=n8_;clear n0_ n1_ n2_ n3_ n4_ n5_ n6_ n7_ n8_;(try clear hb);(try clear hb2);(try clear hk);(try clear hi))|((with_reducible refine gate_callee (f:=17) rfl ?_);refine goesL_ (some 119) rfl rfl Tryz.func17 (by kernel_rfl) rfl #[.string bG] rfl (by(try simp only[List.map_toArray,List.map_cons,List.map_nil]);first|done|rfl|(simp only[List.length_drop,List.length_take];rfl)) ?_;(with_reducible refine(impl_ReadWay.calls k bG gE gZ _ oX.out (HT.out.below (qK1 HB.out aM.out))).mono ?_);rintro e pZ ⟨pV,rfl,aV,hb⟩;refine⟨_,rfl,?_⟩;have n0_:=A' (Kd.R_elder' (qR aD.out) (Kd.R_base aV) hb);have n1_:=A' (Kd.R_elder' (qR aJ.out) (Kd.R_base aV) hb);have n2_:=A' (Kd.R_elder' (qR aK.out) (Kd.R_base aV) hb);have n3_:=A' (Kd.R_elder' (qR aN.out) (Kd.R_base aV) hb);have n4_:=A' (Kd.R_elder' (qR aO.out) (Kd.R_base aV) hb);have n5_:=A' (Kd.S_below (by(with_reducible repeat(first|apply Kd.S_alloc|apply Kd.S_drewN|apply Kd.S_drew));exact aP.out) hb);have n6_:=A' (Kd.S_below (by(with_reducible repeat(first|apply Kd.S_alloc|apply Kd.S_drewN|apply Kd.S_drew));exact aQ.out) hb);have n7_:=A' (Kd.R_lower (U' (U' (U' (U' (U' aV (Kd.R_lt (qR aD.out))) (Kd.R_lt (qR aJ.out))) (Kd.R_lt (qR aK.out))) (Kd.R_lt (qR aN.out))) (Kd.R_lt (qR aO.out))) (V' (qK1 HB.out aM.out)));have n8_:=A' (O' (g:=aC) (o:=.cells #[.int .i64 aE,.int .i64 aF,.bool aG] 25 (0,0)) (qB aA.out) hb);have n9_:=A' (W' (qK1 HB.out aM.out) hb);clear aD;clear aJ;clear aK;clear aN;clear aO;clear aP;clear aQ;clear aA;clear HB;have aD:=n0_;have aJ:=n1_;have aK:=n2_;have aN:=n3_;have aO:=n4_;have aP:=n5_;have aQ:=n6_;have aT:=n7_;have aA:=n8_;have HB:=n9_;clear n0_ n1_ n2_ n3_ n4_ n5_ n6_ n7_ n8_ n9_;(try clear hb);(try clear hb2);(try clear hk);(try clear hi);(try clear aV))|((with_reducible refine gate_callee (f:=18) rfl ?_);refine goesL_ (some 123) rfl rfl Tryz.func18 (by kernel_rfl) rfl #[.slice A0 l0.length c0] rfl (by(try simp only[List.map_toArray,List.map_cons,List.map_nil]);first|done|rfl|(simp only[List.length_drop,List.length_take];rfl)) ?_;(with_reducible refine(spec_DrawReadWay.calls k _ _ l0 cL _ ?aI ?aH oM.out).mono ?_);(case aI=>exact qT (X' kN.out HB.out));(case aH=>exact kS.out);rintro e qK ⟨rfl,hb⟩;refine⟨_,rfl,?_⟩;have n0_:=A' (L' (qR aD.out) hb);have n1_:=A' (L' (qR aJ.out) hb);have n2_:=A' (L' (qR aK.out) hb);have n3_:=A' (L' (qR aN.out) hb);have n4_:=A' (L' (qR aO.out) hb);have n5_:=A' (Kd.S_below (by(with_reducible repeat(first|apply Kd.S_alloc|apply Kd.S_drewN|apply Kd.S_drew));exact aP.out) hb);have n6_:=A' (Kd.S_below (by(with_reducible repeat(first|apply Kd.S_alloc|apply Kd.S_drewN|apply Kd.S_drew));exact aQ.out) hb);have n7_:=A' (L' (qR aT.out) hb);have n8_:=A' (O' (g:=aC) (o:=.cells #[.int .i64 aE,.int .i64 aF,.bool aG] 25 (0,0)) (qB aA.out) hb);have n9_:=A' (W' (qK1 HB.out aM.out) hb);clear aD;clear aJ;clear aK;clear aN;clear aO;clear aP;clear aQ;clear aT;clear aA;clear HB;have aD:=n0_;have aJ:=n1_;have aK:=n2_;have aN:=n3_;have aO:=n4_;have aP:=n5_;have aQ:=n6_;have aT:=n7_;have aA:=n8_;have HB:=n9_;clear n0_ n1_ n2_ n3_ n4_ n5_ n6_ n7_ n8_ n9_;(try clear hb);(try clear hb2);(try clear hk);(try clear hi))|((with_reducible refine gate_callee (f:=17) rfl ?_);refine goesL_ (some 126) rfl rfl Tryz.func17 (by kernel_rfl) rfl #[.string cL] rfl (by(try simp only[List.map_toArray,List.map_cons,List.map_nil]);first|done|rfl|(simp only[List.length_drop,List.length_take];rfl)) ?_;(with_reducible refine(impl_ReadWay.calls k cL cQ bT _ nY.out (HT.out.below (qK1 HB.out aM.out))).mono ?_);rintro e qG ⟨pF,rfl,aV,hb⟩;refine⟨_,rfl,?_⟩;have n0_:=A' (Kd.R_elder' (qR aD.out) (Kd.R_base aV) hb);have n1_:=A' (Kd.R_elder' (qR aJ.out) (Kd.R_base aV) hb);have n2_:=A' (Kd.R_elder' (qR aK.out) (Kd.R_base aV) hb);have n3_:=A' (Kd.R_elder' (qR aN.out) (Kd.R_base aV) hb);have n4_:=A' (Kd.R_elder' (qR aO.out) (Kd.R_base aV) hb);have n5_:=A' (Kd.S_below (by(with_reducible repeat(first|apply Kd.S_alloc|apply Kd.S_drewN|apply Kd.S_drew));exact aP.out) hb);have n6_:=A' (Kd.S_below (by(with_reducible repeat(first|apply Kd.S_alloc|apply Kd.S_drewN|apply Kd.S_drew));exact aQ.out) hb);have n7_:=A' (Kd.R_elder' (qR aT.out) (Kd.R_base aV) hb);have n8_:=A' (Kd.R_lower (U' (U' (U' (U' (U' (U' aV (Kd.R_lt (qR aD.out))) (Kd.R_lt (qR aJ.out))) (Kd.R_lt (qR aK.out))) (Kd.R_lt (qR aN.out))) (Kd.R_lt (qR aO.out))) (Kd.R_lt (qR aT.out))) (V' (qK1 HB.out aM.out)));have n9_:=A' (O' (g:=aC) (o:=.cells #[.int .i64 aE,.int .i64 aF,.bool aG] 25 (0,0)) (qB aA.out) hb);have n10_:=A' (W' (qK1 HB.out aM.out) hb);clear aD;clear aJ;clear aK;clear aN;clear aO;clear aP;clear aQ;clear aT;clear aA;clear HB;have aD:=n0_;have aJ:=n1_;have aK:=n2_;have aN:=n3_;have aO:=n4_;have aP:=n5_;have aQ:=n6_;have aT:=n7_;have aZ:=n8_;have aA:=n9_;have HB:=n10_;clear n0_ n1_ n2_ n3_ n4_ n5_ n6_ n7_ n8_ n9_ n10_;(try clear hb);(try clear hb2);(try clear hk);(try clear hi);(try clear aV))|((with_reducible refine gate_callee (f:=19) rfl ?_);refine goesL_ (some 131) rfl rfl Tryz.func19 (by kernel_rfl) rfl #[.string cL] rfl (by(try simp only[List.map_toArray,List.map_cons,List.map_nil]);first|done|rfl|(simp only[List.length_drop,List.length_take];rfl)) ?_;(with_reducible refine(spec_ReadWay.calls k cL cN bV _ nQ.out).mono ?_);rintro e pY ⟨pW,rfl,aV,hb⟩;refine⟨_,rfl,?_⟩;have n0_:=A' (Kd.R_elder' (qR aD.out) (Kd.R_base aV) hb);have n1_:=A' (Kd.R_elder' (qR aJ.out) (Kd.R_base aV) hb);have n2_:=A' (Kd.R_elder' (qR aK.out) (Kd.R_base aV) hb);have n3_:=A' (Kd.R_elder' (qR aN.out) (Kd.R_base aV) hb);have n4_:=A' (Kd.R_elder' (qR aO.out) (Kd.R_base aV) hb);have n5_:=A' (Kd.S_below (by(with_reducible repeat(first|apply Kd.S_alloc|apply Kd.S_drewN|apply Kd.S_drew));exact aP.out) hb);have n6_:=A' (Kd.S_below (by(with_reducible repeat(first|apply Kd.S_alloc|apply Kd.S_drewN|apply Kd.S_drew));exact aQ.out) hb);have n7_:=A' (Kd.R_elder' (qR aT.out) (Kd.R_base aV) hb);have n8_:=A' (Kd.R_elder' (qR aZ.out) (Kd.R_base aV) hb);have n9_:=A' (Kd.R_lower (U' (U' (U' (U' (U' (U' (U' aV (Kd.R_lt (qR aD.out))) (Kd.R_lt (qR aJ.out))) (Kd.R_lt (qR aK.out))) (Kd.R_lt (qR aN.out))) (Kd.R_lt (qR aO.out))) (Kd.R_lt (qR aT.out))) (Kd.R_lt (qR aZ.out))) (V' (qK1 HB.out aM.out)));have n10_:=A' (O' (g:=aC) (o:=.cells #[.int .i64 aE,.int .i64 aF,.bool aG] 25 (0,0)) (qB aA.out) hb);have n11_:=A' (W' (qK1 HB.out aM.out) hb);clear aD;clear aJ;clear aK;clear aN;clear aO;clear aP;clear aQ;clear aT;clear aZ;clear aA;clear HB;have aD:=n0_;have aJ:=n1_;have aK:=n2_;have aN:=n3_;have aO:=n4_;have aP:=n5_;have aQ:=n6_;have aT:=n7_;have aZ:=n8_;have bF:=n9_;have aA:=n10_;have HB:=n11_;clear n0_ n1_ n2_ n3_ n4_ n5_ n6_ n7_ n8_ n9_ n10_ n11_;(try clear hb);(try clear hb2);(try clear hk);(try clear hi);(try clear aV))|((with_reducible refine gate_callee (f:=20) rfl ?_);refine goesL_ (some 136) rfl rfl Tryz.func20 (by kernel_rfl) rfl #[.slice A0 l0.length c0] rfl (by(try simp only[List.map_toArray,List.map_cons,List.map_nil]);first|done|rfl|(simp only[List.length_drop,List.length_take];rfl)) ?_;(with_reducible refine(spec_DrawSameWay.calls k _ _ l0 bB bC _ ?aI ?aH lF.out).mono ?_);(case aI=>exact qT (X' kN.out HB.out));(case aH=>exact kS.out);rintro e jC ⟨oR,oT,rfl,aV,hR,hb⟩;refine⟨_,rfl,?_⟩;have n0_:=A' (Q' (Kd.R_told (Kd.R_told (Kd.R_old (qR aD.out) hb) (Kd.R_base aV)) (Kd.R_base hR)) (fun _ h_=>h_.1));have n1_:=A' (Q' (Kd.R_told (Kd.R_told (Kd.R_old (qR aJ.out) hb) (Kd.R_base aV)) (Kd.R_base hR)) (fun _ h_=>h_.1));have n2_:=A' (Q' (Kd.R_told (Kd.R_told (Kd.R_old (qR aK.out) hb) (Kd.R_base aV)) (Kd.R_base hR)) (fun _ h_=>h_.1));have n3_:=A' (Q' (Kd.R_told (Kd.R_told (Kd.R_old (qR aN.out) hb) (Kd.R_base aV)) (Kd.R_base hR)) (fun _ h_=>h_.1));have n4_:=A' (Q' (Kd.R_told (Kd.R_told (Kd.R_old (qR aO.out) hb) (Kd.R_base aV)) (Kd.R_base hR)) (fun _ h_=>h_.1));have n5_:=A' (Kd.S_below (by(with_reducible repeat(first|apply Kd.S_alloc|apply Kd.S_drewN|apply Kd.S_drew));exact aP.out) hb);have n6_:=A' (Kd.S_below (by(with_reducible repeat(first|apply Kd.S_alloc|apply Kd.S_drewN|apply Kd.S_drew));exact aQ.out) hb);have n7_:=A' (Q' (Kd.R_told (Kd.R_told (Kd.R_old (qR aT.out) hb) (Kd.R_base aV)) (Kd.R_base hR)) (fun _ h_=>h_.1));have n8_:=A' (Q' (Kd.R_told (Kd.R_told (Kd.R_old (qR aZ.out) hb) (Kd.R_base aV)) (Kd.R_base hR)) (fun _ h_=>h_.1));have n9_:=A' (Q' (Kd.R_told (Kd.R_told (Kd.R_old (qR bF.out) hb) (Kd.R_base aV)) (Kd.R_base hR)) (fun _ h_=>h_.1));have n10_:=A' (Kd.R_lower (U' (U' (U' (U' (U' (U' (U' (U' aV (Kd.R_lt (qR aD.out))) (Kd.R_lt (qR aJ.out))) (Kd.R_lt (qR aK.out))) (Kd.R_lt (qR aN.out))) (Kd.R_lt (qR aO.out))) (Kd.R_lt (qR aT.out))) (Kd.R_lt (qR aZ.out))) (Kd.R_lt (qR bF.out))) (V' (qK1 HB.out aM.out)));have n11_:=A' (Kd.R_lower (U' (U' (U' (U' (U' (U' (U' (U' hR (Kd.R_lt (qR aD.out))) (Kd.R_lt (qR aJ.out))) (Kd.R_lt (qR aK.out))) (Kd.R_lt (qR aN.out))) (Kd.R_lt (qR aO.out))) (Kd.R_lt (qR aT.out))) (Kd.R_lt (qR aZ.out))) (Kd.R_lt (qR bF.out))) (V' (qK1 HB.out aM.out)));have n12_:=A' (O' (g:=aC) (o:=.cells #[.int .i64 aE,.int .i64 aF,.bool aG] 25 (0,0)) (qB aA.out) hb);have n13_:=A' (W' (qK1 HB.out aM.out) hb);clear aD;clear aJ;clear aK;clear aN;clear aO;clear aP;clear aQ;clear aT;clear aZ;clear bF;clear aA;clear HB;have aD:=n0_;have aJ:=n1_;have aK:=n2_;have aN:=n3_;have aO:=n4_;have aP:=n5_;have aQ:=n6_;have aT:=n7_;have aZ:=n8_;have bF:=n9_;have bJ:=n10_;have bI:=n11_;have aA:=n12_;have HB:=n13_;clear n0_ n1_ n2_ n3_ n4_ n5_ n6_ n7_ n8_ n9_ n10_ n11_ n12_ n13_;(try clear hb);(try clear hb2);(try clear hk);(try clear hi);(try clear aV);(try clear hR)))
  (try simp only[Act.put,List.setIfInBounds_toArray,List.set_cons_zero,List.set_cons_succ])
  go_cut [235] (fun mJ wc=>∃(kq:Nat) (cJ:Bool),mJ= .bool cJ∧Aside0 (laws_FnWays.j0 kq aL aX aY bK bH bD bA aU aW cJ aE aF aG=some r)∧Aside0 (kq≤k)∧Aside0 (Kd.R k51 51 wc w.heap.size (fun k_=>some k_≠(fQ:Value).ownBlock∧some k_≠(gB:Value).ownBlock) (.slice bR aL.length bP) aL)∧Aside0 (Kd.R k51 51 wc w.heap.size (fun k_=>some k_≠((.slice bR aL.length bP):Value).ownBlock∧some k_≠(gB:Value).ownBlock) fQ aX)∧Aside0 (Kd.R k51 51 wc w.heap.size (fun k_=>some k_≠((.slice bR aL.length bP):Value).ownBlock∧some k_≠(fQ:Value).ownBlock) gB aU)∧Aside0 (Kd.S (Kd.slice 2 (Kd.int .i64)) 62 wc w.heap.size (fun _=>True) iX aW)∧Aside0 (wc.heap[aC]? =some (.cells #[.int .i64 aE,.int .i64 aF,.bool aG] 25 (0,0)))∧Aside0 (Below w.heap.size w wc))
  case first=>as_aux_lemma=>
   have H:=iW.out;clear iW
   by_cases c52:aY=hW
   ·rw[if_pos c52]at H;have c52b0:(aY == hW)=true:=beq_iff_eq.mpr c52;have c52b1:(aY != hW)=false:=bne_eq_false_iff_eq.mpr c52;clear c52;(first|rw[c52b0]|(simp only[i64_w,i32_w];rw[c52b0])|skip);replace H:=Option.bind_eq_some_iff.mp H;obtain⟨hE,kD,H⟩:=H;(try dsimp only at H);have nD:=A' kD;clear kD
    by_cases iN:hE=true
    ·subst iN;have H1:(if hM=hO then(if bK.toList=hL.toList then(if hP=gS then(if bD=gM then(if(bH != gI)=true then(none)else(if bA=hH then((spec_SameWay.f k hU aU).bind fun fV=>(if fV=true then(if gF=gC then((laws_f6lists.f k hD aW).bind fun eN=>(if eN=true then((spec_WayText.f k aE aF aG aL).bind fun bX=>(if bG.toList=bX.toList then(if bG.toList=([]:List UInt8)then(if(bT != bV)=true then(none)else((spec_SameWay.f k cQ cN).bind fun cI=>(if cI=true then((impl_SameWay.f k bB bC).bind fun bS=>((spec_SameWay.f k bB bC).bind fun bQ=>(laws_FnWays.j0 k aL aX aY bK bH bD bA aU aW (bS != bQ) aE aF aG)))else(none))))else(if gZ=true then((spec_SameWay.f k gE aL).bind fun cH=>(if cH=true then(if(bT != bV)=true then(none)else((spec_SameWay.f k cQ cN).bind fun bW=>(if bW=true then((impl_SameWay.f k bB bC).bind fun bM=>((spec_SameWay.f k bB bC).bind fun bL=>(laws_FnWays.j0 k aL aX aY bK bH bD bA aU aW (bM != bL) aE aF aG)))else(none))))else(none)))else(none)))else(none)))else(none)))else(none))else(none)))else(none)))else(none))else(none))else(none))else(none))=some r:=by rw[if_pos rfl]at H;exact H
     clear H;have H:=H1;clear H1
     by_cases c55:hM=hO
     ·rw[if_pos c55]at H;have c55b0:(hM == hO)=true:=beq_iff_eq.mpr c55;have c55b1:(hM != hO)=false:=bne_eq_false_iff_eq.mpr c55;clear c55
      by_cases c56:bK.toList=hL.toList
      ·rw[if_pos c56]at H;have c56b0:(bK.toList == hL.toList)=true:=beq_iff_eq.mpr c56;have c56b1:(bK.toList != hL.toList)=false:=bne_eq_false_iff_eq.mpr c56;clear c56
       by_cases c57:hP=gS
       ·rw[if_pos c57]at H;have c57b0:(hP == gS)=true:=beq_iff_eq.mpr c57;have c57b1:(hP != gS)=false:=bne_eq_false_iff_eq.mpr c57;clear c57
        by_cases c58:bD=gM
        ·rw[if_pos c58]at H;have c58b0:(bD == gM)=true:=beq_iff_eq.mpr c58;have c58b1:(bD != gM)=false:=bne_eq_false_iff_eq.mpr c58;clear c58
         by_cases c59:(bH != gI)=true
         ·rw[if_pos c59]at H;exact absurd H (by simp)
         ·rw[if_neg c59]at H;have c59b0:(bH != gI)=false:=by simpa using c59
          (try(have c59b1:decide (bH=gI)=true:=by simpa using c59));(try(have c59b2:(bH == gI)=true:=by simpa using c59));clear c59
          by_cases c60:bA=hH
          ·rw[if_pos c60]at H;have c60b0:(bA == hH)=true:=beq_iff_eq.mpr c60;have c60b1:(bA != hH)=false:=bne_eq_false_iff_eq.mpr c60;clear c60;replace H:=Option.bind_eq_some_iff.mp H;obtain⟨fV,jO,H⟩:=H;(try dsimp only at H);have mZ:=A' jO;clear jO
           by_cases iR:fV=true
           ·subst iR;have H1:(if gF=gC then((laws_f6lists.f k hD aW).bind fun eN=>(if eN=true then((spec_WayText.f k aE aF aG aL).bind fun bX=>(if bG.toList=bX.toList then(if bG.toList=([]:List UInt8)then(if(bT != bV)=true then(none)else((spec_SameWay.f k cQ cN).bind fun cI=>(if cI=true then((impl_SameWay.f k bB bC).bind fun bS=>((spec_SameWay.f k bB bC).bind fun bQ=>(laws_FnWays.j0 k aL aX aY bK bH bD bA aU aW (bS != bQ) aE aF aG)))else(none))))else(if gZ=true then((spec_SameWay.f k gE aL).bind fun cH=>(if cH=true then(if(bT != bV)=true then(none)else((spec_SameWay.f k cQ cN).bind fun bW=>(if bW=true then((impl_SameWay.f k bB bC).bind fun bM=>((spec_SameWay.f k bB bC).bind fun bL=>(laws_FnWays.j0 k aL aX aY bK bH bD bA aU aW (bM != bL) aE aF aG)))else(none))))else(none)))else(none)))else(none)))else(none)))else(none))=some r:=by rw[if_pos rfl]at H;exact H
            clear H;have H:=H1;clear H1
            by_cases c63:gF=gC
            ·rw[if_pos c63]at H;have c63b0:(gF == gC)=true:=beq_iff_eq.mpr c63;have c63b1:(gF != gC)=false:=bne_eq_false_iff_eq.mpr c63;clear c63;replace H:=Option.bind_eq_some_iff.mp H;obtain⟨eN,kB,H⟩:=H;(try dsimp only at H);have nL:=A' kB;clear kB
             by_cases iZ:eN=true
             ·subst iZ;have H1:((spec_WayText.f k aE aF aG aL).bind fun bX=>(if bG.toList=bX.toList then(if bG.toList=([]:List UInt8)then(if(bT != bV)=true then(none)else((spec_SameWay.f k cQ cN).bind fun cI=>(if cI=true then((impl_SameWay.f k bB bC).bind fun bS=>((spec_SameWay.f k bB bC).bind fun bQ=>(laws_FnWays.j0 k aL aX aY bK bH bD bA aU aW (bS != bQ) aE aF aG)))else(none))))else(if gZ=true then((spec_SameWay.f k gE aL).bind fun cH=>(if cH=true then(if(bT != bV)=true then(none)else((spec_SameWay.f k cQ cN).bind fun bW=>(if bW=true then((impl_SameWay.f k bB bC).bind fun bM=>((spec_SameWay.f k bB bC).bind fun bL=>(laws_FnWays.j0 k aL aX aY bK bH bD bA aU aW (bM != bL) aE aF aG)))else(none))))else(none)))else(none)))else(none)))=some r:=by rw[if_pos rfl]at H;exact H
              clear H;have H:=H1;clear H1;replace H:=Option.bind_eq_some_iff.mp H;obtain⟨bX,kO,H⟩:=H;(try dsimp only at H);have mX:=A' kO;clear kO
              by_cases c67:bG.toList=bX.toList
              ·rw[if_pos c67]at H;have c67b0:(bG.toList == bX.toList)=true:=beq_iff_eq.mpr c67;have c67b1:(bG.toList != bX.toList)=false:=bne_eq_false_iff_eq.mpr c67;clear c67
               by_cases c68:bG.toList=([]:List UInt8)
               ·rw[if_pos c68]at H;have c68b0:(bG.toList == ([]:List UInt8))=true:=beq_iff_eq.mpr c68;have c68b1:(bG.toList != ([]:List UInt8))=false:=bne_eq_false_iff_eq.mpr c68;clear c68
                by_cases c69:(bT != bV)=true
                ·rw[if_pos c69]at H;exact absurd H (by simp)
                ·rw[if_neg c69]at H;have c69b0:(bT != bV)=false:=by simpa using c69
                 (try(have c69b1:decide (bT=bV)=true:=by simpa using c69));(try(have c69b2:(bT == bV)=true:=by simpa using c69));clear c69;replace H:=Option.bind_eq_some_iff.mp H;obtain⟨cI,jZ,H⟩:=H;replace H:(if cI=true then((impl_SameWay.f k bB bC).bind fun bS=>((spec_SameWay.f k bB bC).bind fun bQ=>(laws_FnWays.j0 k aL aX aY bK bH bD bA aU aW (bS != bQ) aE aF aG)))else(none))=some r:=H;have lD:=A' jZ;clear jZ
                 by_cases jA:cI=true
                 ·subst jA;have H1:((impl_SameWay.f k bB bC).bind fun bS=>((spec_SameWay.f k bB bC).bind fun bQ=>(laws_FnWays.j0 k aL aX aY bK bH bD bA aU aW (bS != bQ) aE aF aG)))=some r:=by rw[if_pos rfl]at H;exact H
                  clear H;have H:=H1;clear H1;replace H:=Option.bind_eq_some_iff.mp H;obtain⟨bS,lB,H⟩:=H;replace H:((spec_SameWay.f k bB bC).bind fun bQ=>(laws_FnWays.j0 k aL aX aY bK bH bD bA aU aW (bS != bQ) aE aF aG))=some r:=H;have pJ:=A' lB;clear lB;replace H:=Option.bind_eq_some_iff.mp H;obtain⟨bQ,lA,H⟩:=H;replace H:(laws_FnWays.j0 k aL aX aY bK bH bD bA aU aW (bS != bQ) aE aF aG)=some r:=H;have oY:=A' lA;clear lA;have H':=A' H;clear H;obtain⟨oJ,oL,mO⟩:=Kd.R_slice aJ.out;subst mO;obtain⟨pR,pM,lQ⟩:=Kd.R_slice aK.out;subst lQ;go_wp2_with (first|(go_at_call 21;(with_reducible refine(spec_SameWay.calls k _ _ aX _ _ iU true _ ?aI ?aH ?aR ?aS nD.out).mono ?_);(case aI=>repeat(first|exact(Kd.R_reads' aJ.out).2.2|(with_reducible refine R' ?_ _)|(with_reducible refine S' ?_ _)|(with_reducible refine T' ?_)));(case aH=>exact(Kd.R_reads' aJ.out).2.1);(case aR=>repeat(first|exact(Kd.R_reads' aK.out).2.2|(with_reducible refine R' ?_ _)|(with_reducible refine S' ?_ _)|(with_reducible refine T' ?_)));(case aS=>exact(Kd.R_reads' aK.out).2.1);rintro e w' ⟨rfl,⟨nd,rfl⟩⟩;obtain⟨pX,oO,mB⟩:=Kd.R_slice aN.out;subst mB;obtain⟨nW,pI,lN⟩:=Kd.R_slice aO.out;subst lN)|(go_at_call 21;(with_reducible refine(spec_SameWay.calls k _ _ hU _ _ aU true _ ?aI ?aH ?aR ?aS mZ.out).mono ?_);(case aI=>repeat(first|exact(Kd.R_reads' aN.out).2.2|(with_reducible refine R' ?_ _)|(with_reducible refine S' ?_ _)|(with_reducible refine T' ?_)));(case aH=>exact(Kd.R_reads' aN.out).2.1);(case aR=>repeat(first|exact(Kd.R_reads' aO.out).2.2|(with_reducible refine R' ?_ _)|(with_reducible refine S' ?_ _)|(with_reducible refine T' ?_)));(case aS=>exact(Kd.R_reads' aO.out).2.1);rintro e w' ⟨rfl,⟨nd,rfl⟩⟩;obtain⟨oG,oE,lI⟩:=Kd.S_slice aP.out;subst lI;obtain⟨oV,pN,lH⟩:=Kd.S_slice aQ.out;subst lH)|(go_at_call 22;(with_reducible refine(laws_f6lists.calls k _ _ hD _ _ aW true _ ?aI ?aH ?aR ?aS nL.out).mono ?_);(case aI=>repeat(first|exact(Kd.S_reads' aP.out).2.2|(with_reducible refine R' ?_ _)|(with_reducible refine S' ?_ _)|(with_reducible refine T' ?_)));(case aH=>exact(Kd.S_reads' aP.out).2.1);(case aR=>repeat(first|exact(Kd.S_reads' aQ.out).2.2|(with_reducible refine R' ?_ _)|(with_reducible refine S' ?_ _)|(with_reducible refine T' ?_)));(case aS=>exact(Kd.S_reads' aQ.out).2.1);rintro e w' ⟨rfl,⟨nd,rfl⟩⟩;have dE:jC.cell? ⟨aC,0,none⟩=some (.int .i64 aE):=(N' aA.out 0).trans rfl;have eF:jC.cell? ⟨aC,1,none⟩=some (.int .i64 aF):=(N' aA.out 1).trans rfl;have dU:jC.cell? ⟨aC,2,none⟩=some (.bool aG):=(N' aA.out 2).trans rfl;have eM:=Y' aA.out 0;have dA:=Y' aA.out 1;have eC:=Y' aA.out 2)|(go_at_call 23;(with_reducible refine(spec_WayText.calls k aE aF aG _ _ aL bX _ ?aI ?aH mX.out).mono ?_);(case aI=>repeat(first|exact(Kd.R_reads' aD.out).2.2|(with_reducible refine R' ?_ _)|(with_reducible refine S' ?_ _)|(with_reducible refine T' ?_)));(case aH=>exact(Kd.R_reads' aD.out).2.1);rintro e qD ⟨rfl,hb⟩;have n0_:=A' (L' (qR aD.out) hb);have n1_:=A' (L' (qR aJ.out) hb);have n2_:=A' (L' (qR aK.out) hb);have n3_:=A' (L' (qR aN.out) hb);have n4_:=A' (L' (qR aO.out) hb);have n5_:=A' (Kd.S_below (by(with_reducible repeat(first|apply Kd.S_alloc|apply Kd.S_drewN|apply Kd.S_drew));exact aP.out) hb);have n6_:=A' (Kd.S_below (by(with_reducible repeat(first|apply Kd.S_alloc|apply Kd.S_drewN|apply Kd.S_drew));exact aQ.out) hb);have n7_:=A' (L' (qR aT.out) hb);have n8_:=A' (L' (qR aZ.out) hb);have n9_:=A' (L' (qR bF.out) hb);have n10_:=A' (L' (qR bJ.out) hb);have n11_:=A' (L' (qR bI.out) hb);have n12_:=A' (O' (g:=aC) (o:=.cells #[.int .i64 aE,.int .i64 aF,.bool aG] 25 (0,0)) (qB aA.out) hb);have n13_:=A' (W' (qK1 HB.out aM.out) hb);clear aD;clear aJ;clear aK;clear aN;clear aO;clear aP;clear aQ;clear aT;clear aZ;clear bF;clear bJ;clear bI;clear aA;clear HB;have aD:=n0_;have aJ:=n1_;have aK:=n2_;have aN:=n3_;have aO:=n4_;have aP:=n5_;have aQ:=n6_;have aT:=n7_;have aZ:=n8_;have bF:=n9_;have bJ:=n10_;have bI:=n11_;have aA:=n12_;have HB:=n13_;clear n0_ n1_ n2_ n3_ n4_ n5_ n6_ n7_ n8_ n9_ n10_ n11_ n12_ n13_;(try clear hb);(try clear hb2);(try clear hk);(try clear hi);obtain⟨oA,pO,lT⟩:=Kd.R_slice aZ.out;subst lT;obtain⟨nU,pD,lZ⟩:=Kd.R_slice bF.out;subst lZ)|(go_at_call 21;(with_reducible refine(spec_SameWay.calls k _ _ cQ _ _ cN true _ ?aI ?aH ?aR ?aS lD.out).mono ?_);(case aI=>repeat(first|exact(Kd.R_reads' aZ.out).2.2|(with_reducible refine R' ?_ _)|(with_reducible refine S' ?_ _)|(with_reducible refine T' ?_)));(case aH=>exact(Kd.R_reads' aZ.out).2.1);(case aR=>repeat(first|exact(Kd.R_reads' bF.out).2.2|(with_reducible refine R' ?_ _)|(with_reducible refine S' ?_ _)|(with_reducible refine T' ?_)));(case aS=>exact(Kd.R_reads' bF.out).2.1);rintro e w' ⟨rfl,⟨nd,rfl⟩⟩;obtain⟨oQ,oU,lL⟩:=Kd.R_slice bJ.out;subst lL;obtain⟨oI,oF,lU⟩:=Kd.R_slice bI.out;subst lU)|(go_at_call 24;(with_reducible refine(impl_SameWay.calls k _ _ bB _ _ bC bS _ ?aI ?aH ?aR ?aS pJ.out).mono ?_);(case aI=>repeat(first|exact(Kd.R_reads' bJ.out).2.2|(with_reducible refine R' ?_ _)|(with_reducible refine S' ?_ _)|(with_reducible refine T' ?_)));(case aH=>exact(Kd.R_reads' bJ.out).2.1);(case aR=>repeat(first|exact(Kd.R_reads' bI.out).2.2|(with_reducible refine R' ?_ _)|(with_reducible refine S' ?_ _)|(with_reducible refine T' ?_)));(case aS=>exact(Kd.R_reads' bI.out).2.1);rintro e w' ⟨rfl,⟨nd,rfl⟩⟩)|(go_at_call 21;(with_reducible refine(spec_SameWay.calls k _ _ bB _ _ bC bQ _ ?aI ?aH ?aR ?aS oY.out).mono ?_);(case aI=>repeat(first|exact(Kd.R_reads' bJ.out).2.2|(with_reducible refine R' ?_ _)|(with_reducible refine S' ?_ _)|(with_reducible refine T' ?_)));(case aH=>exact(Kd.R_reads' bJ.out).2.1);(case aR=>repeat(first|exact(Kd.R_reads' bI.out).2.2|(with_reducible refine R' ?_ _)|(with_reducible refine S' ?_ _)|(with_reducible refine T' ?_)));(case aS=>exact(Kd.R_reads' bI.out).2.1);rintro e w' ⟨rfl,⟨nd,rfl⟩⟩))
                  (try any_goals (exact(undef_no (by with_reducible assumption)).elim))
                  go_meet
                  case rel=>exact⟨_,((bS != bQ)),qS,H',⟨by first|omega|exact Nat.le_refl _⟩,⟨by(with_reducible repeat(first|apply B'|apply C'|apply D'));exact Q' aD.out (fun _ hk=>⟨hk.1.1.1.1.1.1.1.1.2,hk.1.1.1.1.1.2⟩)⟩,⟨by(with_reducible repeat(first|apply B'|apply C'|apply D'));exact Q' aJ.out (fun _ hk=>⟨hk.1.1.1.1.1.1.1.1.2,hk.1.1.1.1.1.2⟩)⟩,⟨by(with_reducible repeat(first|apply B'|apply C'|apply D'));exact Q' aO.out (fun _ hk=>⟨hk.1.1.1.1.1.1.1.1.2,hk.1.1.1.1.1.1.1.2⟩)⟩,⟨by(with_reducible repeat(first|apply Kd.S_alloc|apply Kd.S_drewN|apply Kd.S_drew));exact Kd.S_mono aQ.out (fun _ hk=>trivial)⟩,⟨qB aA.out⟩,⟨qK1 HB.out aM.out⟩⟩
                 ·replace jA:=Bool.eq_false_iff.mpr jA;subst jA;have H1:(none)=some r:=by rw[if_neg (show¬(false=true) by decide)]at H;exact H
                  clear H;have H:=H1;clear H1;exact absurd H (by simp)
               ·rw[if_neg c68]at H;have c68b0:(bG.toList == ([]:List UInt8))=false:=beq_eq_false_iff_ne.mpr c68;have c68b1:(bG.toList != ([]:List UInt8))=true:=bne_iff_ne.mpr c68
                by_cases iO:gZ=true
                ·subst iO;have H1:((spec_SameWay.f k gE aL).bind fun cH=>(if cH=true then(if(bT != bV)=true then(none)else((spec_SameWay.f k cQ cN).bind fun bW=>(if bW=true then((impl_SameWay.f k bB bC).bind fun bM=>((spec_SameWay.f k bB bC).bind fun bL=>(laws_FnWays.j0 k aL aX aY bK bH bD bA aU aW (bM != bL) aE aF aG)))else(none))))else(none)))=some r:=by rw[if_pos rfl]at H;exact H
                 clear H;have H:=H1;clear H1;replace H:=Option.bind_eq_some_iff.mp H;obtain⟨cH,kQ,H⟩:=H;(try dsimp only at H);have oW:=A' kQ;clear kQ
                 by_cases jB:cH=true
                 ·subst jB;have H1:(if(bT != bV)=true then(none)else((spec_SameWay.f k cQ cN).bind fun bW=>(if bW=true then((impl_SameWay.f k bB bC).bind fun bM=>((spec_SameWay.f k bB bC).bind fun bL=>(laws_FnWays.j0 k aL aX aY bK bH bD bA aU aW (bM != bL) aE aF aG)))else(none))))=some r:=by rw[if_pos rfl]at H;exact H
                  clear H;have H:=H1;clear H1
                  by_cases c89:(bT != bV)=true
                  ·rw[if_pos c89]at H;exact absurd H (by simp)
                  ·rw[if_neg c89]at H;have c89b0:(bT != bV)=false:=by simpa using c89
                   (try(have c89b1:decide (bT=bV)=true:=by simpa using c89));(try(have c89b2:(bT == bV)=true:=by simpa using c89));clear c89;replace H:=Option.bind_eq_some_iff.mp H;obtain⟨bW,kI,H⟩:=H;replace H:(if bW=true then((impl_SameWay.f k bB bC).bind fun bM=>((spec_SameWay.f k bB bC).bind fun bL=>(laws_FnWays.j0 k aL aX aY bK bH bD bA aU aW (bM != bL) aE aF aG)))else(none))=some r:=H;have lE:=A' kI;clear kI
                   by_cases iY:bW=true
                   ·subst iY;have H1:((impl_SameWay.f k bB bC).bind fun bM=>((spec_SameWay.f k bB bC).bind fun bL=>(laws_FnWays.j0 k aL aX aY bK bH bD bA aU aW (bM != bL) aE aF aG)))=some r:=by rw[if_pos rfl]at H;exact H
                    clear H;have H:=H1;clear H1;replace H:=Option.bind_eq_some_iff.mp H;obtain⟨bM,jQ,H⟩:=H;replace H:((spec_SameWay.f k bB bC).bind fun bL=>(laws_FnWays.j0 k aL aX aY bK bH bD bA aU aW (bM != bL) aE aF aG))=some r:=H;have nR:=A' jQ;clear jQ;replace H:=Option.bind_eq_some_iff.mp H;obtain⟨bL,jK,H⟩:=H;replace H:(laws_FnWays.j0 k aL aX aY bK bH bD bA aU aW (bM != bL) aE aF aG)=some r:=H;have nX:=A' jK;clear jK;have H':=A' H;clear H;obtain⟨pC,pQ,lX⟩:=Kd.R_slice aJ.out;subst lX;obtain⟨oN,oP,mA⟩:=Kd.R_slice aK.out;subst mA;go_wp2_with (first|(go_at_call 21;(with_reducible refine(spec_SameWay.calls k _ _ aX _ _ iU true _ ?aI ?aH ?aR ?aS nD.out).mono ?_);(case aI=>repeat(first|exact(Kd.R_reads' aJ.out).2.2|(with_reducible refine R' ?_ _)|(with_reducible refine S' ?_ _)|(with_reducible refine T' ?_)));(case aH=>exact(Kd.R_reads' aJ.out).2.1);(case aR=>repeat(first|exact(Kd.R_reads' aK.out).2.2|(with_reducible refine R' ?_ _)|(with_reducible refine S' ?_ _)|(with_reducible refine T' ?_)));(case aS=>exact(Kd.R_reads' aK.out).2.1);rintro e w' ⟨rfl,⟨nd,rfl⟩⟩;obtain⟨oH,pU,lY⟩:=Kd.R_slice aN.out;subst lY;obtain⟨pA,oC,mE⟩:=Kd.R_slice aO.out;subst mE)|(go_at_call 21;(with_reducible refine(spec_SameWay.calls k _ _ hU _ _ aU true _ ?aI ?aH ?aR ?aS mZ.out).mono ?_);(case aI=>repeat(first|exact(Kd.R_reads' aN.out).2.2|(with_reducible refine R' ?_ _)|(with_reducible refine S' ?_ _)|(with_reducible refine T' ?_)));(case aH=>exact(Kd.R_reads' aN.out).2.1);(case aR=>repeat(first|exact(Kd.R_reads' aO.out).2.2|(with_reducible refine R' ?_ _)|(with_reducible refine S' ?_ _)|(with_reducible refine T' ?_)));(case aS=>exact(Kd.R_reads' aO.out).2.1);rintro e w' ⟨rfl,⟨nd,rfl⟩⟩;obtain⟨nT,pL,mC⟩:=Kd.S_slice aP.out;subst mC;obtain⟨pB,pH,lM⟩:=Kd.S_slice aQ.out;subst lM)|(go_at_call 22;(with_reducible refine(laws_f6lists.calls k _ _ hD _ _ aW true _ ?aI ?aH ?aR ?aS nL.out).mono ?_);(case aI=>repeat(first|exact(Kd.S_reads' aP.out).2.2|(with_reducible refine R' ?_ _)|(with_reducible refine S' ?_ _)|(with_reducible refine T' ?_)));(case aH=>exact(Kd.S_reads' aP.out).2.1);(case aR=>repeat(first|exact(Kd.S_reads' aQ.out).2.2|(with_reducible refine R' ?_ _)|(with_reducible refine S' ?_ _)|(with_reducible refine T' ?_)));(case aS=>exact(Kd.S_reads' aQ.out).2.1);rintro e w' ⟨rfl,⟨nd,rfl⟩⟩;have cS:jC.cell? ⟨aC,0,none⟩=some (.int .i64 aE):=(N' aA.out 0).trans rfl;have cM:jC.cell? ⟨aC,1,none⟩=some (.int .i64 aF):=(N' aA.out 1).trans rfl;have cR:jC.cell? ⟨aC,2,none⟩=some (.bool aG):=(N' aA.out 2).trans rfl;have cK:=Y' aA.out 0;have cT:=Y' aA.out 1;have cO:=Y' aA.out 2)|(go_at_call 23;(with_reducible refine(spec_WayText.calls k aE aF aG _ _ aL bX _ ?aI ?aH mX.out).mono ?_);(case aI=>repeat(first|exact(Kd.R_reads' aD.out).2.2|(with_reducible refine R' ?_ _)|(with_reducible refine S' ?_ _)|(with_reducible refine T' ?_)));(case aH=>exact(Kd.R_reads' aD.out).2.1);rintro e oB ⟨rfl,hb⟩;have n0_:=A' (L' (qR aD.out) hb);have n1_:=A' (L' (qR aJ.out) hb);have n2_:=A' (L' (qR aK.out) hb);have n3_:=A' (L' (qR aN.out) hb);have n4_:=A' (L' (qR aO.out) hb);have n5_:=A' (Kd.S_below (by(with_reducible repeat(first|apply Kd.S_alloc|apply Kd.S_drewN|apply Kd.S_drew));exact aP.out) hb);have n6_:=A' (Kd.S_below (by(with_reducible repeat(first|apply Kd.S_alloc|apply Kd.S_drewN|apply Kd.S_drew));exact aQ.out) hb);have n7_:=A' (L' (qR aT.out) hb);have n8_:=A' (L' (qR aZ.out) hb);have n9_:=A' (L' (qR bF.out) hb);have n10_:=A' (L' (qR bJ.out) hb);have n11_:=A' (L' (qR bI.out) hb);have n12_:=A' (O' (g:=aC) (o:=.cells #[.int .i64 aE,.int .i64 aF,.bool aG] 25 (0,0)) (qB aA.out) hb);have n13_:=A' (W' (qK1 HB.out aM.out) hb);clear aD;clear aJ;clear aK;clear aN;clear aO;clear aP;clear aQ;clear aT;clear aZ;clear bF;clear bJ;clear bI;clear aA;clear HB;have aD:=n0_;have aJ:=n1_;have aK:=n2_;have aN:=n3_;have aO:=n4_;have aP:=n5_;have aQ:=n6_;have aT:=n7_;have aZ:=n8_;have bF:=n9_;have bJ:=n10_;have bI:=n11_;have aA:=n12_;have HB:=n13_;clear n0_ n1_ n2_ n3_ n4_ n5_ n6_ n7_ n8_ n9_ n10_ n11_ n12_ n13_;(try clear hb);(try clear hb2);(try clear hk);(try clear hi);obtain⟨nE,nP,kR⟩:=Kd.R_slice aT.out;subst kR)|(go_at_call 21;(with_reducible refine(spec_SameWay.calls k _ _ gE _ _ aL true _ ?aI ?aH ?aR ?aS oW.out).mono ?_);(case aI=>repeat(first|exact(Kd.R_reads' aT.out).2.2|(with_reducible refine R' ?_ _)|(with_reducible refine S' ?_ _)|(with_reducible refine T' ?_)));(case aH=>exact(Kd.R_reads' aT.out).2.1);(case aR=>repeat(first|exact(Kd.R_reads' aD.out).2.2|(with_reducible refine R' ?_ _)|(with_reducible refine S' ?_ _)|(with_reducible refine T' ?_)));(case aS=>exact(Kd.R_reads' aD.out).2.1);rintro e w' ⟨rfl,⟨nd,rfl⟩⟩;obtain⟨mV,nO,jP⟩:=Kd.R_slice aZ.out;subst jP;obtain⟨nA,mY,jJ⟩:=Kd.R_slice bF.out;subst jJ)|(go_at_call 21;(with_reducible refine(spec_SameWay.calls k _ _ cQ _ _ cN true _ ?aI ?aH ?aR ?aS lE.out).mono ?_);(case aI=>repeat(first|exact(Kd.R_reads' aZ.out).2.2|(with_reducible refine R' ?_ _)|(with_reducible refine S' ?_ _)|(with_reducible refine T' ?_)));(case aH=>exact(Kd.R_reads' aZ.out).2.1);(case aR=>repeat(first|exact(Kd.R_reads' bF.out).2.2|(with_reducible refine R' ?_ _)|(with_reducible refine S' ?_ _)|(with_reducible refine T' ?_)));(case aS=>exact(Kd.R_reads' bF.out).2.1);rintro e w' ⟨rfl,⟨nd,rfl⟩⟩;obtain⟨mQ,nC,jE⟩:=Kd.R_slice bJ.out;subst jE;obtain⟨nH,nI,kU⟩:=Kd.R_slice bI.out;subst kU)|(go_at_call 24;(with_reducible refine(impl_SameWay.calls k _ _ bB _ _ bC bM _ ?aI ?aH ?aR ?aS nR.out).mono ?_);(case aI=>repeat(first|exact(Kd.R_reads' bJ.out).2.2|(with_reducible refine R' ?_ _)|(with_reducible refine S' ?_ _)|(with_reducible refine T' ?_)));(case aH=>exact(Kd.R_reads' bJ.out).2.1);(case aR=>repeat(first|exact(Kd.R_reads' bI.out).2.2|(with_reducible refine R' ?_ _)|(with_reducible refine S' ?_ _)|(with_reducible refine T' ?_)));(case aS=>exact(Kd.R_reads' bI.out).2.1);rintro e w' ⟨rfl,⟨nd,rfl⟩⟩)|(go_at_call 21;(with_reducible refine(spec_SameWay.calls k _ _ bB _ _ bC bL _ ?aI ?aH ?aR ?aS nX.out).mono ?_);(case aI=>repeat(first|exact(Kd.R_reads' bJ.out).2.2|(with_reducible refine R' ?_ _)|(with_reducible refine S' ?_ _)|(with_reducible refine T' ?_)));(case aH=>exact(Kd.R_reads' bJ.out).2.1);(case aR=>repeat(first|exact(Kd.R_reads' bI.out).2.2|(with_reducible refine R' ?_ _)|(with_reducible refine S' ?_ _)|(with_reducible refine T' ?_)));(case aS=>exact(Kd.R_reads' bI.out).2.1);rintro e w' ⟨rfl,⟨nd,rfl⟩⟩))
                    (try any_goals (exact(undef_no (by with_reducible assumption)).elim))
                    go_meet
                    case rel=>exact⟨_,((bM != bL)),qS,H',⟨by first|omega|exact Nat.le_refl _⟩,⟨by(with_reducible repeat(first|apply B'|apply C'|apply D'));exact Q' aD.out (fun _ hk=>⟨hk.1.1.1.1.1.1.1.1.2,hk.1.1.1.1.1.2⟩)⟩,⟨by(with_reducible repeat(first|apply B'|apply C'|apply D'));exact Q' aJ.out (fun _ hk=>⟨hk.1.1.1.1.1.1.1.1.2,hk.1.1.1.1.1.2⟩)⟩,⟨by(with_reducible repeat(first|apply B'|apply C'|apply D'));exact Q' aO.out (fun _ hk=>⟨hk.1.1.1.1.1.1.1.1.2,hk.1.1.1.1.1.1.1.2⟩)⟩,⟨by(with_reducible repeat(first|apply Kd.S_alloc|apply Kd.S_drewN|apply Kd.S_drew));exact Kd.S_mono aQ.out (fun _ hk=>trivial)⟩,⟨qB aA.out⟩,⟨qK1 HB.out aM.out⟩⟩
                   ·replace iY:=Bool.eq_false_iff.mpr iY;subst iY;have H1:(none)=some r:=by rw[if_neg (show¬(false=true) by decide)]at H;exact H
                    clear H;have H:=H1;clear H1;exact absurd H (by simp)
                 ·replace jB:=Bool.eq_false_iff.mpr jB;subst jB;have H1:(none)=some r:=by rw[if_neg (show¬(false=true) by decide)]at H;exact H
                  clear H;have H:=H1;clear H1;exact absurd H (by simp)
                ·replace iO:=Bool.eq_false_iff.mpr iO;subst iO;have H1:(none)=some r:=by rw[if_neg (show¬(false=true) by decide)]at H;exact H
                 clear H;have H:=H1;clear H1;exact absurd H (by simp)
              ·rw[if_neg c67]at H;exact absurd H (by simp)
             ·replace iZ:=Bool.eq_false_iff.mpr iZ;subst iZ;have H1:(none)=some r:=by rw[if_neg (show¬(false=true) by decide)]at H;exact H
              clear H;have H:=H1;clear H1;exact absurd H (by simp)
            ·rw[if_neg c63]at H;exact absurd H (by simp)
           ·replace iR:=Bool.eq_false_iff.mpr iR;subst iR;have H1:(none)=some r:=by rw[if_neg (show¬(false=true) by decide)]at H;exact H
            clear H;have H:=H1;clear H1;exact absurd H (by simp)
          ·rw[if_neg c60]at H;exact absurd H (by simp)
        ·rw[if_neg c58]at H;exact absurd H (by simp)
       ·rw[if_neg c57]at H;exact absurd H (by simp)
      ·rw[if_neg c56]at H;exact absurd H (by simp)
     ·rw[if_neg c55]at H;exact absurd H (by simp)
    ·replace iN:=Bool.eq_false_iff.mpr iN;subst iN;have H1:(none)=some r:=by rw[if_neg (show¬(false=true) by decide)]at H;exact H
     clear H;have H:=H1;clear H1;exact absurd H (by simp)
   ·rw[if_neg c52]at H;exact absurd H (by simp)
  case rest=>as_aux_lemma=>
   clear iW;try clear c1
   try clear c2
   try clear p2
   try clear c3
   try clear c4
   try clear c5
   try clear c6
   try clear c7
   try clear c8
   try clear c9
   try clear c10
   try clear c11
   try clear c12
   try clear c13
   try clear c14
   try clear c15
   try clear c16
   try clear c17
   try clear c18
   try clear c19
   try clear c20
   try clear c52
   try clear c52b0
   try clear c52b1
   try clear iN
   try clear c55
   try clear c55b0
   try clear c55b1
   try clear c56
   try clear c56b0
   try clear c56b1
   try clear c57
   try clear c57b0
   try clear c57b1
   try clear c58
   try clear c58b0
   try clear c58b1
   try clear c59
   try clear c59b0
   try clear c59b1
   try clear c59b2
   try clear c60
   try clear c60b0
   try clear c60b1
   try clear iR
   try clear c63
   try clear c63b0
   try clear c63b1
   try clear iZ
   try clear c67
   try clear c67b0
   try clear c67b1
   try clear c68
   try clear c68b0
   try clear c68b1
   try clear c69
   try clear c69b0
   try clear c69b1
   try clear c69b2
   try clear jA
   try clear iO
   try clear jB
   try clear c89
   try clear c89b0
   try clear c89b1
   try clear c89b2
   try clear iY
   try clear cS
   try clear cM
   try clear cR
   try clear eQ
   try clear dW
   try clear fD
   try clear cZ
   try clear dQ
   try clear eY
   try clear eS
   try clear eI
   try clear eA
   try clear fA
   try clear dG
   try clear dM
   try clear eK
   try clear eW
   try clear eX
   try clear fG
   try clear cX
   try clear dP
   try clear eE
   try clear dI
   try clear dF
   try clear fM
   try clear fI
   try clear dR
   try clear dT
   try clear eV
   try clear fL
   try clear dO
   try clear cY
   try clear eH
   try clear eU
   try clear eG
   try clear dY
   try clear dE
   try clear eF
   try clear dU
   try clear cK
   try clear cT
   try clear cO
   try clear fH
   try clear eL
   try clear dB
   try clear fK
   try clear cV
   try clear cW
   try clear eR
   try clear dK
   try clear fJ
   try clear eO
   try clear fO
   try clear fC
   try clear dD
   try clear dJ
   try clear fN
   try clear eB
   try clear dS
   try clear eP
   try clear dX
   try clear dN
   try clear dV
   try clear dZ
   try clear fB
   try clear dL
   try clear eT
   try clear dC
   try clear cU
   try clear eJ
   try clear eZ
   try clear fE
   try clear fF
   try clear eD
   try clear dH
   try clear eM
   try clear dA
   try clear eC
   obtain⟨kq,cJ,rfl,HA,hX,HO_4,HO_5,HO_21,HO_25,aA,HB⟩:=hcut
   cases kq with
   |zero=>exact absurd HA.out (by simp[laws_FnWays.j0])
   |succ iS=>
    have H:=HA.out;clear HA;simp only[laws_FnWays.j0]at H
    by_cases gH:cJ=true
    ·subst gH;have H1:(none)=some r:=by rw[if_pos rfl]at H;exact H
     clear H;have H:=H1;clear H1;exact absurd H (by simp)
    ·replace gH:=Bool.eq_false_iff.mpr gH;subst gH;have H1:(if bD=0 then(laws_FnWays.j1 iS aL aX aY bA aU aW (bH != (bK.toList == ([110,111,110,101]:List UInt8))) aE aF aG)else(laws_FnWays.j1 iS aL aX aY bA aU aW false aE aF aG))=some r:=by rw[if_neg (show¬(false=true) by decide)]at H;exact H
     clear H;have H:=H1;clear H1;have gR:=A' H;clear H;go_upto_region 22 with (fail)
     go_cut [243] (fun lJ wc=>∃(kq:Nat) (bY:Bool),lJ= .bool bY∧Aside0 (laws_FnWays.j1 kq aL aX aY bA aU aW bY aE aF aG=some r)∧Aside0 (kq≤iS)∧Aside0 (Kd.R k51 51 wc w.heap.size (fun k_=>some k_≠(fQ:Value).ownBlock∧some k_≠(gB:Value).ownBlock) (.slice bR aL.length bP) aL)∧Aside0 (Kd.R k51 51 wc w.heap.size (fun k_=>some k_≠((.slice bR aL.length bP):Value).ownBlock∧some k_≠(gB:Value).ownBlock) fQ aX)∧Aside0 (Kd.R k51 51 wc w.heap.size (fun k_=>some k_≠((.slice bR aL.length bP):Value).ownBlock∧some k_≠(fQ:Value).ownBlock) gB aU)∧Aside0 (Kd.S (Kd.slice 2 (Kd.int .i64)) 62 wc w.heap.size (fun _=>True) iX aW)∧Aside0 (wc.heap[aC]? =some (.cells #[.int .i64 aE,.int .i64 aF,.bool aG] 25 (0,0)))∧Aside0 (Below w.heap.size w wc))
     case first=>as_aux_lemma=>
      have H:=gR.out;clear gR
      by_cases c109:bD=0
      ·rw[if_pos c109]at H;have c109b0:(bD == 0)=true:=beq_iff_eq.mpr c109;have c109b1:(bD != 0)=false:=bne_eq_false_iff_eq.mpr c109;clear c109;(first|rw[c109b0]|(simp only[i64_w,i32_w];rw[c109b0])|skip);have H':=A' H;clear H;go_wp2
       go_meet
       case rel=>exact⟨_,((bH != (bK.toList == ([110,111,110,101]:List UInt8)))),qS,H',⟨by have:=hX.out;first|omega|exact Nat.le_refl _⟩,⟨qR HO_4.out⟩,⟨qR HO_5.out⟩,⟨qR HO_21.out⟩,⟨by(with_reducible repeat(first|apply Kd.S_alloc|apply Kd.S_drewN|apply Kd.S_drew));exact HO_25.out⟩,⟨qB aA.out⟩,⟨qK1 HB.out aM.out⟩⟩
      ·rw[if_neg c109]at H;have c109b0:(bD == 0)=false:=beq_eq_false_iff_ne.mpr c109;have c109b1:(bD != 0)=true:=bne_iff_ne.mpr c109;(first|rw[c109b0]|(simp only[i64_w,i32_w];rw[c109b0])|skip);have H':=A' H;clear H;go_wp2
       go_meet
       case rel=>exact⟨_,(false),qS,H',⟨by have:=hX.out;first|omega|exact Nat.le_refl _⟩,⟨qR HO_4.out⟩,⟨qR HO_5.out⟩,⟨qR HO_21.out⟩,⟨by(with_reducible repeat(first|apply Kd.S_alloc|apply Kd.S_drewN|apply Kd.S_drew));exact HO_25.out⟩,⟨qB aA.out⟩,⟨qK1 HB.out aM.out⟩⟩
     case rest=>as_aux_lemma=>
      clear gR;try clear c1
      try clear c2
      try clear p2
      try clear c3
      try clear c4
      try clear c5
      try clear c6
      try clear c7
      try clear c8
      try clear c9
      try clear c10
      try clear c11
      try clear c12
      try clear c13
      try clear c14
      try clear c15
      try clear c16
      try clear c17
      try clear c18
      try clear c19
      try clear c20
      try clear c52
      try clear c52b0
      try clear c52b1
      try clear iN
      try clear c55
      try clear c55b0
      try clear c55b1
      try clear c56
      try clear c56b0
      try clear c56b1
      try clear c57
      try clear c57b0
      try clear c57b1
      try clear c58
      try clear c58b0
      try clear c58b1
      try clear c59
      try clear c59b0
      try clear c59b1
      try clear c59b2
      try clear c60
      try clear c60b0
      try clear c60b1
      try clear iR
      try clear c63
      try clear c63b0
      try clear c63b1
      try clear iZ
      try clear c67
      try clear c67b0
      try clear c67b1
      try clear c68
      try clear c68b0
      try clear c68b1
      try clear c69
      try clear c69b0
      try clear c69b1
      try clear c69b2
      try clear jA
      try clear iO
      try clear jB
      try clear c89
      try clear c89b0
      try clear c89b1
      try clear c89b2
      try clear iY
      try clear gH
      try clear c109
      try clear c109b0
      try clear c109b1
      try clear cS
      try clear cM
      try clear cR
      try clear eQ
      try clear dW
      try clear fD
      try clear cZ
      try clear dQ
      try clear eY
      try clear eS
      try clear eI
      try clear eA
      try clear fA
      try clear dG
      try clear dM
      try clear eK
      try clear eW
      try clear eX
      try clear fG
      try clear cX
      try clear dP
      try clear eE
      try clear dI
      try clear dF
      try clear fM
      try clear fI
      try clear dR
      try clear dT
      try clear eV
      try clear fL
      try clear dO
      try clear cY
      try clear eH
      try clear eU
      try clear eG
      try clear dY
      try clear dE
      try clear eF
      try clear dU
      try clear cK
      try clear cT
      try clear cO
      try clear fH
      try clear eL
      try clear dB
      try clear fK
      try clear cV
      try clear cW
      try clear eR
      try clear dK
      try clear fJ
      try clear eO
      try clear fO
      try clear fC
      try clear dD
      try clear dJ
      try clear fN
      try clear eB
      try clear dS
      try clear eP
      try clear dX
      try clear dN
      try clear dV
      try clear dZ
      try clear fB
      try clear dL
      try clear eT
      try clear dC
      try clear cU
      try clear eJ
      try clear eZ
      try clear fE
      try clear fF
      try clear eD
      try clear dH
      try clear eM
      try clear dA
      try clear eC
      try clear p2
      obtain⟨kq,bY,rfl,HA,iC,HO_4,HO_5,HO_21,HO_25,aA,HB⟩:=hcut
      cases kq with
      |zero=>exact absurd HA.out (by simp[laws_FnWays.j1])
      |succ cG=>
       have H:=HA.out;clear HA;simp only[laws_FnWays.j1]at H
       by_cases gK:bY=true
       ·subst gK;have H1:(none)=some r:=by rw[if_pos rfl]at H;exact H
        clear H;have H:=H1;clear H1;exact absurd H (by simp)
       ·replace gK:=Bool.eq_false_iff.mpr gK;subst gK;have H1:(if bA=0 then((impl_IsWay.f cG aE aF aG aU).bind fun iG=>((impl_CrossingsOf.f cG aE aF aG aU false).bind fun hY=>(if iG.2=0 then(if iG.1=true then(if hY.2=0 then(if hY.1=0 then(if(aU.length:Int)=(wrap64 (aE+aF))then(laws_FnWays.j2 cG aL aX aY aW aE aF aG)else(none))else(none))else(none))else(none))else(none))))else(laws_FnWays.j2 cG aL aX aY aW aE aF aG))=some r:=by rw[if_neg (show¬(false=true) by decide)]at H;exact H
        clear H;have H:=H1;clear H1;have gJ:=A' H;clear H;go_upto_if 245 with (fail)
        go_cut [] (fun wc=>∃(kq:Nat),Aside0 (laws_FnWays.j2 kq aL aX aY aW aE aF aG=some r)∧Aside0 (kq≤cG)∧Aside0 (Kd.R k51 51 wc w.heap.size (fun k_=>some k_≠(fQ:Value).ownBlock) (.slice bR aL.length bP) aL)∧Aside0 (Kd.R k51 51 wc w.heap.size (fun k_=>some k_≠((.slice bR aL.length bP):Value).ownBlock) fQ aX)∧Aside0 (Kd.S (Kd.slice 2 (Kd.int .i64)) 62 wc w.heap.size (fun _=>True) iX aW)∧Aside0 (wc.heap[aC]? =some (.cells #[.int .i64 aE,.int .i64 aF,.bool aG] 25 (0,0)))∧Aside0 (Below w.heap.size w wc))
        case first=>as_aux_lemma=>
         have H:=gJ.out;clear gJ
         by_cases c112:bA=0
         ·rw[if_pos c112]at H;have c112b0:(bA == 0)=true:=beq_iff_eq.mpr c112;have c112b1:(bA != 0)=false:=bne_eq_false_iff_eq.mpr c112;clear c112;(first|rw[c112b0]|(simp only[i64_w,i32_w];rw[c112b0])|skip);replace H:=Option.bind_eq_some_iff.mp H;obtain⟨⟨jL,gP⟩,iA,H⟩:=H;(try dsimp only at H);have mM:=A' iA;clear iA;replace H:=Option.bind_eq_some_iff.mp H;obtain⟨⟨gD,gG⟩,iD,H⟩:=H;replace H:(if gP=0 then(if jL=true then(if gG=0 then(if gD=0 then(if(aU.length:Int)=(wrap64 (aE+aF))then(laws_FnWays.j2 cG aL aX aY aW aE aF aG)else(none))else(none))else(none))else(none))else(none))=some r:=H;have mI:=A' iD;clear iD
          by_cases c115:gP=0
          ·rw[if_pos c115]at H;have c115b0:(gP == 0)=true:=beq_iff_eq.mpr c115;have c115b1:(gP != 0)=false:=bne_eq_false_iff_eq.mpr c115;clear c115
           by_cases gY:jL=true
           ·subst gY;have H1:(if gG=0 then(if gD=0 then(if(aU.length:Int)=(wrap64 (aE+aF))then(laws_FnWays.j2 cG aL aX aY aW aE aF aG)else(none))else(none))else(none))=some r:=by rw[if_pos rfl]at H;exact H
            clear H;have H:=H1;clear H1
            by_cases c117:gG=0
            ·rw[if_pos c117]at H;have c117b0:(gG == 0)=true:=beq_iff_eq.mpr c117;have c117b1:(gG != 0)=false:=bne_eq_false_iff_eq.mpr c117;clear c117
             by_cases c118:gD=0
             ·rw[if_pos c118]at H;have c118b0:(gD == 0)=true:=beq_iff_eq.mpr c118;have c118b1:(gD != 0)=false:=bne_eq_false_iff_eq.mpr c118;clear c118
              by_cases c119:(aU.length:Int)=(wrap64 (aE+aF))
              ·rw[if_pos c119]at H;have c119b0:((aU.length:Int) == (wrap64 (aE+aF)))=true:=beq_iff_eq.mpr c119;have c119b1:((aU.length:Int) != (wrap64 (aE+aF)))=false:=bne_eq_false_iff_eq.mpr c119;clear c119;have H':=A' H;clear H;have gW:wc.cell? ⟨aC,0,none⟩=some (.int .i64 aE):=(N' aA.out 0).trans rfl;have gN:wc.cell? ⟨aC,1,none⟩=some (.int .i64 aF):=(N' aA.out 1).trans rfl;have hI:wc.cell? ⟨aC,2,none⟩=some (.bool aG):=(N' aA.out 2).trans rfl;have hN:=Y' aA.out 0;have gT:=Y' aA.out 1;have gL:=Y' aA.out 2;obtain⟨hZ,iK,jH⟩:=Kd.R_slice HO_21.out;subst jH;go_wp2_with (first|((with_reducible refine gate_callee (f:=10) rfl ?_);refine goesL_ (some 249) rfl rfl Tryz.func10 (by kernel_rfl) rfl #[.agg #[.int .i64 aE,.int .i64 aF,.bool aG],.slice hZ aU.length iK] rfl (by(try simp only[List.map_toArray,List.map_cons,List.map_nil]);first|done|rfl|(simp only[List.length_drop,List.length_take];rfl)) ?_;(with_reducible refine(impl_IsWay.calls cG aE aF aG _ _ aU true gP _ ?aI ?aH mM.out).mono ?_);(case aI=>repeat(first|exact(Kd.R_reads' HO_21.out).2.2|(with_reducible refine R' ?_ _)|(with_reducible refine S' ?_ _)|(with_reducible refine T' ?_)));(case aH=>exact(Kd.R_reads' HO_21.out).2.1);rintro e iL ⟨rfl,hb⟩;refine⟨_,rfl,?_⟩;have n0_:=A' (L' (qR HO_4.out) hb);have n1_:=A' (L' (qR HO_5.out) hb);have n2_:=A' (L' (qR HO_21.out) hb);have n3_:=A' (Kd.S_below (by(with_reducible repeat(first|apply Kd.S_alloc|apply Kd.S_drewN|apply Kd.S_drew));exact HO_25.out) hb);have n4_:=A' (O' (g:=aC) (o:=.cells #[.int .i64 aE,.int .i64 aF,.bool aG] 25 (0,0)) (qB aA.out) hb);have n5_:=A' (W' (qK1 HB.out aM.out) hb);clear HO_4;clear HO_5;clear HO_21;clear HO_25;clear aA;clear HB;have HO_4:=n0_;have HO_5:=n1_;have HO_21:=n2_;have HO_25:=n3_;have aA:=n4_;have HB:=n5_;clear n0_ n1_ n2_ n3_ n4_ n5_;(try clear hb);(try clear hb2);(try clear hk);(try clear hi);have gV:iL.cell? ⟨aC,0,none⟩=some (.int .i64 aE):=(N' aA.out 0).trans rfl;have hJ:iL.cell? ⟨aC,1,none⟩=some (.int .i64 aF):=(N' aA.out 1).trans rfl;have gX:iL.cell? ⟨aC,2,none⟩=some (.bool aG):=(N' aA.out 2).trans rfl;have gU:=Y' aA.out 0;have hC:=Y' aA.out 1;have gO:=Y' aA.out 2)|((with_reducible refine gate_callee (f:=25) rfl ?_);refine goesL_ (some 255) rfl rfl Tryz.func25 (by kernel_rfl) rfl #[.agg #[.int .i64 aE,.int .i64 aF,.bool aG],.slice hZ aU.length iK,.bool false] rfl (by(try simp only[List.map_toArray,List.map_cons,List.map_nil]);first|done|rfl|(simp only[List.length_drop,List.length_take];rfl)) ?_;(with_reducible refine(impl_CrossingsOf.calls cG aE aF aG _ _ aU false gD gG _ ?aI ?aH mI.out).mono ?_);(case aI=>repeat(first|exact(Kd.R_reads' HO_21.out).2.2|(with_reducible refine R' ?_ _)|(with_reducible refine S' ?_ _)|(with_reducible refine T' ?_)));(case aH=>exact(Kd.R_reads' HO_21.out).2.1);rintro e iT ⟨rfl,hb⟩;refine⟨_,rfl,?_⟩;have n0_:=A' (L' (qR HO_4.out) hb);have n1_:=A' (L' (qR HO_5.out) hb);have n2_:=A' (L' (qR HO_21.out) hb);have n3_:=A' (Kd.S_below (by(with_reducible repeat(first|apply Kd.S_alloc|apply Kd.S_drewN|apply Kd.S_drew));exact HO_25.out) hb);have n4_:=A' (O' (g:=aC) (o:=.cells #[.int .i64 aE,.int .i64 aF,.bool aG] 25 (0,0)) (qB aA.out) hb);have n5_:=A' (W' (qK1 HB.out aM.out) hb);clear HO_4;clear HO_5;clear HO_21;clear HO_25;clear aA;clear HB;have HO_4:=n0_;have HO_5:=n1_;have HO_21:=n2_;have HO_25:=n3_;have aA:=n4_;have HB:=n5_;clear n0_ n1_ n2_ n3_ n4_ n5_;(try clear hb);(try clear hb2);(try clear hk);(try clear hi);have hG:iT.cell? ⟨aC,0,none⟩=some (.int .i64 aE):=(N' aA.out 0).trans rfl;have hQ:iT.cell? ⟨aC,1,none⟩=some (.int .i64 aF):=(N' aA.out 1).trans rfl;have hF:iT.cell? ⟨aC,2,none⟩=some (.bool aG):=(N' aA.out 2).trans rfl;have hB:=Y' aA.out 0;have gQ:=Y' aA.out 1;have hK:=Y' aA.out 2))
               go_meet
               case rel=>exact⟨_,H',⟨by have:=hX.out;have:=iC.out;first|omega|exact Nat.le_refl _⟩,⟨by(with_reducible repeat(first|apply B'|apply C'|apply D'));exact Q' HO_4.out (fun _ hk=>hk.1)⟩,⟨by(with_reducible repeat(first|apply B'|apply C'|apply D'));exact Q' HO_5.out (fun _ hk=>hk.1)⟩,⟨by(with_reducible repeat(first|apply Kd.S_alloc|apply Kd.S_drewN|apply Kd.S_drew));exact HO_25.out⟩,⟨qB aA.out⟩,⟨qK1 HB.out aM.out⟩⟩
              ·rw[if_neg c119]at H;exact absurd H (by simp)
             ·rw[if_neg c118]at H;exact absurd H (by simp)
            ·rw[if_neg c117]at H;exact absurd H (by simp)
           ·replace gY:=Bool.eq_false_iff.mpr gY;subst gY;have H1:(none)=some r:=by rw[if_neg (show¬(false=true) by decide)]at H;exact H
            clear H;have H:=H1;clear H1;exact absurd H (by simp)
          ·rw[if_neg c115]at H;exact absurd H (by simp)
         ·rw[if_neg c112]at H;have c112b0:(bA == 0)=false:=beq_eq_false_iff_ne.mpr c112;have c112b1:(bA != 0)=true:=bne_iff_ne.mpr c112;(first|rw[c112b0]|(simp only[i64_w,i32_w];rw[c112b0])|skip);have H':=A' H;clear H;go_wp2
          go_meet
          case rel=>exact⟨_,H',⟨by have:=hX.out;have:=iC.out;first|omega|exact Nat.le_refl _⟩,⟨by(with_reducible repeat(first|apply B'|apply C'|apply D'));exact Q' HO_4.out (fun _ hk=>hk.1)⟩,⟨by(with_reducible repeat(first|apply B'|apply C'|apply D'));exact Q' HO_5.out (fun _ hk=>hk.1)⟩,⟨by(with_reducible repeat(first|apply Kd.S_alloc|apply Kd.S_drewN|apply Kd.S_drew));exact HO_25.out⟩,⟨qB aA.out⟩,⟨qK1 HB.out aM.out⟩⟩
        case rest=>as_aux_lemma=>
         clear gJ;try clear c1
         try clear c2
         try clear p2
         try clear c3
         try clear c4
         try clear c5
         try clear c6
         try clear p6
         try clear c7
         try clear c8
         try clear c9
         try clear c10
         try clear c11
         try clear c12
         try clear c13
         try clear c14
         try clear c15
         try clear c16
         try clear c17
         try clear c18
         try clear c19
         try clear c20
         try clear c25
         try clear c52
         try clear c52b0
         try clear c52b1
         try clear iN
         try clear c55
         try clear c55b0
         try clear c55b1
         try clear c56
         try clear c56b0
         try clear c56b1
         try clear c57
         try clear c57b0
         try clear c57b1
         try clear c58
         try clear c58b0
         try clear c58b1
         try clear c59
         try clear c59b0
         try clear c59b1
         try clear c59b2
         try clear c60
         try clear c60b0
         try clear c60b1
         try clear iR
         try clear c63
         try clear c63b0
         try clear c63b1
         try clear p64
         try clear iZ
         try clear c67
         try clear c67b0
         try clear c67b1
         try clear c68
         try clear c68b0
         try clear c68b1
         try clear c69
         try clear c69b0
         try clear c69b1
         try clear c69b2
         try clear jA
         try clear iO
         try clear jB
         try clear c89
         try clear c89b0
         try clear c89b1
         try clear c89b2
         try clear iY
         try clear gH
         try clear c109
         try clear c109b0
         try clear c109b1
         try clear gK
         try clear c112
         try clear c112b0
         try clear c112b1
         try clear c115
         try clear c115b0
         try clear c115b1
         try clear gY
         try clear c117
         try clear c117b0
         try clear c117b1
         try clear c118
         try clear c118b0
         try clear c118b1
         try clear c119
         try clear c119b0
         try clear c119b1
         try clear cS
         try clear cM
         try clear cR
         try clear gW
         try clear gN
         try clear hI
         try clear gV
         try clear hJ
         try clear gX
         try clear hG
         try clear hQ
         try clear hF
         try clear eQ
         try clear dW
         try clear fD
         try clear cZ
         try clear dQ
         try clear eY
         try clear eS
         try clear eI
         try clear eA
         try clear fA
         try clear dG
         try clear dM
         try clear eK
         try clear eW
         try clear eX
         try clear fG
         try clear cX
         try clear dP
         try clear eE
         try clear dI
         try clear dF
         try clear fM
         try clear fI
         try clear dR
         try clear dT
         try clear eV
         try clear fL
         try clear dO
         try clear cY
         try clear eH
         try clear eU
         try clear eG
         try clear dY
         try clear dE
         try clear eF
         try clear dU
         try clear cK
         try clear cT
         try clear cO
         try clear hN
         try clear gT
         try clear gL
         try clear gU
         try clear hC
         try clear gO
         try clear hB
         try clear gQ
         try clear hK
         try clear fH
         try clear eL
         try clear dB
         try clear fK
         try clear cV
         try clear cW
         try clear eR
         try clear dK
         try clear fJ
         try clear eO
         try clear fO
         try clear fC
         try clear dD
         try clear dJ
         try clear fN
         try clear eB
         try clear dS
         try clear eP
         try clear dX
         try clear dN
         try clear dV
         try clear dZ
         try clear fB
         try clear dL
         try clear eT
         try clear dC
         try clear cU
         try clear eJ
         try clear eZ
         try clear fE
         try clear fF
         try clear eD
         try clear dH
         try clear eM
         try clear dA
         try clear eC
         try clear p2
         obtain⟨kq,HA,nK,HO_4,HO_5,HO_25,aA,HB⟩:=hcut
         cases kq with
         |zero=>exact absurd HA.out (by simp[laws_FnWays.j2])
         |succ fR=>
          have H:=HA.out;clear HA;simp only[laws_FnWays.j2]at H
          by_cases c126:aY=0
          ·rw[if_pos c126]at H;have c126b0:(aY == 0)=true:=beq_iff_eq.mpr c126;have c126b1:(aY != 0)=false:=bne_eq_false_iff_eq.mpr c126;clear c126;replace H:=Option.bind_eq_some_iff.mp H;obtain⟨⟨iP,hA⟩,iF,H⟩:=H;(try dsimp only at H);have mP:=A' iF;clear iF;replace H:=Option.bind_eq_some_iff.mp H;obtain⟨⟨gA,fY⟩,iE,H⟩:=H;(try dsimp only at H);have mG:=A' iE;clear iE;replace H:=Option.bind_eq_some_iff.mp H;obtain⟨⟨fZ,fX⟩,iB,H⟩:=H;replace H:(if hA=0 then((spec_SameWay.f fR iP aL).bind fun hV=>(if hV=true then(if fY=0 then(if fX=0 then(if gA=fZ then(some ((wrap64 ((aW.length:Int)+1)) == (aL.length:Int)))else(none))else(none))else(none))else(none)))else(none))=some r:=H;have mD:=A' iB;clear iB
           by_cases c130:hA=0
           ·rw[if_pos c130]at H;have c130b0:(hA == 0)=true:=beq_iff_eq.mpr c130;have c130b1:(hA != 0)=false:=bne_eq_false_iff_eq.mpr c130;clear c130;replace H:=Option.bind_eq_some_iff.mp H;obtain⟨hV,iI,H⟩:=H;replace H:(if hV=true then(if fY=0 then(if fX=0 then(if gA=fZ then(some ((wrap64 ((aW.length:Int)+1)) == (aL.length:Int)))else(none))else(none))else(none))else(none))=some r:=H;have mH:=A' iI;clear iI
            by_cases hS:hV=true
            ·subst hS;have H1:(if fY=0 then(if fX=0 then(if gA=fZ then(some ((wrap64 ((aW.length:Int)+1)) == (aL.length:Int)))else(none))else(none))else(none))=some r:=by rw[if_pos rfl]at H;exact H
             clear H;have H:=H1;clear H1
             by_cases c133:fY=0
             ·rw[if_pos c133]at H;have c133b0:(fY == 0)=true:=beq_iff_eq.mpr c133;have c133b1:(fY != 0)=false:=bne_eq_false_iff_eq.mpr c133;clear c133
              by_cases c134:fX=0
              ·rw[if_pos c134]at H;have c134b0:(fX == 0)=true:=beq_iff_eq.mpr c134;have c134b1:(fX != 0)=false:=bne_eq_false_iff_eq.mpr c134;clear c134
               by_cases c135:gA=fZ
               ·rw[if_pos c135]at H;have c135b0:(gA == fZ)=true:=beq_iff_eq.mpr c135;have c135b1:(gA != fZ)=false:=bne_eq_false_iff_eq.mpr c135;clear c135;obtain rfl:=Option.some.inj H;have kV:wc.cell? ⟨aC,0,none⟩=some (.int .i64 aE):=(N' aA.out 0).trans rfl;have kK:wc.cell? ⟨aC,1,none⟩=some (.int .i64 aF):=(N' aA.out 1).trans rfl;have kC:wc.cell? ⟨aC,2,none⟩=some (.bool aG):=(N' aA.out 2).trans rfl;have kW:=Y' aA.out 0;have jU:=Y' aA.out 1;have kA:=Y' aA.out 2;obtain⟨iH,iJ,kZ⟩:=Kd.R_slice HO_5.out;subst kZ;go_wp2_with (first|((with_reducible refine gate_callee (f:=6) rfl ?_);refine goesL_ (some 287) rfl rfl Tryz.func6 (by kernel_rfl) rfl #[.agg #[.int .i64 aE,.int .i64 aF,.bool aG],.slice iH aX.length iJ] rfl (by(try simp only[List.map_toArray,List.map_cons,List.map_nil]);first|done|rfl|(simp only[List.length_drop,List.length_take];rfl)) ?_;(with_reducible refine(impl_MirrorWay.calls fR aE aF aG _ _ aX iP hA _ ?aI ?aH mP.out).mono ?_);(case aI=>repeat(first|exact(Kd.R_reads' HO_5.out).2.2|(with_reducible refine R' ?_ _)|(with_reducible refine S' ?_ _)|(with_reducible refine T' ?_)));(case aH=>exact(Kd.R_reads' HO_5.out).2.1);rintro e iM ⟨pG,rfl,aV,hb⟩;refine⟨_,rfl,?_⟩;have n0_:=A' (Kd.R_elder' (qR HO_4.out) (Kd.R_base aV) hb);have n1_:=A' (Kd.R_elder' (qR HO_5.out) (Kd.R_base aV) hb);have n2_:=A' (Kd.S_below (by(with_reducible repeat(first|apply Kd.S_alloc|apply Kd.S_drewN|apply Kd.S_drew));exact HO_25.out) hb);have n3_:=A' (Kd.R_lower (U' (U' aV (Kd.R_lt (qR HO_4.out))) (Kd.R_lt (qR HO_5.out))) (V' (qK1 HB.out aM.out)));have n4_:=A' (O' (g:=aC) (o:=.cells #[.int .i64 aE,.int .i64 aF,.bool aG] 25 (0,0)) (qB aA.out) hb);have n5_:=A' (W' (qK1 HB.out aM.out) hb);clear HO_4;clear HO_5;clear HO_25;clear aA;clear HB;have HO_4:=n0_;have HO_5:=n1_;have HO_25:=n2_;have cD:=n3_;have aA:=n4_;have HB:=n5_;clear n0_ n1_ n2_ n3_ n4_ n5_;(try clear hb);(try clear hb2);(try clear hk);(try clear hi);(try clear aV);have jY:iM.cell? ⟨aC,0,none⟩=some (.int .i64 aE):=(N' aA.out 0).trans rfl;have jN:iM.cell? ⟨aC,1,none⟩=some (.int .i64 aF):=(N' aA.out 1).trans rfl;have kL:iM.cell? ⟨aC,2,none⟩=some (.bool aG):=(N' aA.out 2).trans rfl;have kF:=Y' aA.out 0;have jR:=Y' aA.out 1;have kG:=Y' aA.out 2)|((with_reducible refine gate_callee (f:=25) rfl ?_);refine goesL_ (some 293) rfl rfl Tryz.func25 (by kernel_rfl) rfl #[.agg #[.int .i64 aE,.int .i64 aF,.bool aG],.slice bR aL.length bP,.bool false] rfl (by(try simp only[List.map_toArray,List.map_cons,List.map_nil]);first|done|rfl|(simp only[List.length_drop,List.length_take];rfl)) ?_;(with_reducible refine(impl_CrossingsOf.calls fR aE aF aG _ _ aL false gA fY _ ?aI ?aH mG.out).mono ?_);(case aI=>repeat(first|exact(Kd.R_reads' HO_4.out).2.2|(with_reducible refine R' ?_ _)|(with_reducible refine S' ?_ _)|(with_reducible refine T' ?_)));(case aH=>exact(Kd.R_reads' HO_4.out).2.1);rintro e iQ ⟨rfl,hb⟩;refine⟨_,rfl,?_⟩;have n0_:=A' (L' (qR HO_4.out) hb);have n1_:=A' (L' (qR HO_5.out) hb);have n2_:=A' (Kd.S_below (by(with_reducible repeat(first|apply Kd.S_alloc|apply Kd.S_drewN|apply Kd.S_drew));exact HO_25.out) hb);have n3_:=A' (L' (qR cD.out) hb);have n4_:=A' (O' (g:=aC) (o:=.cells #[.int .i64 aE,.int .i64 aF,.bool aG] 25 (0,0)) (qB aA.out) hb);have n5_:=A' (W' (qK1 HB.out aM.out) hb);clear HO_4;clear HO_5;clear HO_25;clear cD;clear aA;clear HB;have HO_4:=n0_;have HO_5:=n1_;have HO_25:=n2_;have cD:=n3_;have aA:=n4_;have HB:=n5_;clear n0_ n1_ n2_ n3_ n4_ n5_;(try clear hb);(try clear hb2);(try clear hk);(try clear hi);have kJ:iQ.cell? ⟨aC,0,none⟩=some (.int .i64 aE):=(N' aA.out 0).trans rfl;have jV:iQ.cell? ⟨aC,1,none⟩=some (.int .i64 aF):=(N' aA.out 1).trans rfl;have jD:iQ.cell? ⟨aC,2,none⟩=some (.bool aG):=(N' aA.out 2).trans rfl;have lC:=Y' aA.out 0;have jX:=Y' aA.out 1;have kE:=Y' aA.out 2)|((with_reducible refine gate_callee (f:=25) rfl ?_);refine goesL_ (some 299) rfl rfl Tryz.func25 (by kernel_rfl) rfl #[.agg #[.int .i64 aE,.int .i64 aF,.bool aG],.slice iH aX.length iJ,.bool false] rfl (by(try simp only[List.map_toArray,List.map_cons,List.map_nil]);first|done|rfl|(simp only[List.length_drop,List.length_take];rfl)) ?_;(with_reducible refine(impl_CrossingsOf.calls fR aE aF aG _ _ aX false fZ fX _ ?aI ?aH mD.out).mono ?_);(case aI=>repeat(first|exact(Kd.R_reads' HO_5.out).2.2|(with_reducible refine R' ?_ _)|(with_reducible refine S' ?_ _)|(with_reducible refine T' ?_)));(case aH=>exact(Kd.R_reads' HO_5.out).2.1);rintro e oS ⟨rfl,hb⟩;refine⟨_,rfl,?_⟩;have n0_:=A' (L' (qR HO_4.out) hb);have n1_:=A' (L' (qR HO_5.out) hb);have n2_:=A' (Kd.S_below (by(with_reducible repeat(first|apply Kd.S_alloc|apply Kd.S_drewN|apply Kd.S_drew));exact HO_25.out) hb);have n3_:=A' (L' (qR cD.out) hb);have n4_:=A' (O' (g:=aC) (o:=.cells #[.int .i64 aE,.int .i64 aF,.bool aG] 25 (0,0)) (qB aA.out) hb);have n5_:=A' (W' (qK1 HB.out aM.out) hb);clear HO_4;clear HO_5;clear HO_25;clear cD;clear aA;clear HB;have HO_4:=n0_;have HO_5:=n1_;have HO_25:=n2_;have cD:=n3_;have aA:=n4_;have HB:=n5_;clear n0_ n1_ n2_ n3_ n4_ n5_;(try clear hb);(try clear hb2);(try clear hk);(try clear hi);obtain⟨mS,mR,kX⟩:=Kd.R_slice cD.out;subst kX)|(go_at_call 21;(with_reducible refine(spec_SameWay.calls fR _ _ iP _ _ aL true _ ?aI ?aH ?aR ?aS mH.out).mono ?_);(case aI=>repeat(first|exact(Kd.R_reads' cD.out).2.2|(with_reducible refine R' ?_ _)|(with_reducible refine S' ?_ _)|(with_reducible refine T' ?_)));(case aH=>exact(Kd.R_reads' cD.out).2.1);(case aR=>repeat(first|exact(Kd.R_reads' HO_4.out).2.2|(with_reducible refine R' ?_ _)|(with_reducible refine S' ?_ _)|(with_reducible refine T' ?_)));(case aS=>exact(Kd.R_reads' HO_4.out).2.1);rintro e w' ⟨rfl,⟨nd,rfl⟩⟩;obtain⟨nF,mU,jI⟩:=Kd.S_slice HO_25.out;subst jI));go_ret;exact⟨qE,qK1 HB.out aM.out⟩
               ·rw[if_neg c135]at H;exact absurd H (by simp)
              ·rw[if_neg c134]at H;exact absurd H (by simp)
             ·rw[if_neg c133]at H;exact absurd H (by simp)
            ·replace hS:=Bool.eq_false_iff.mpr hS;subst hS;have H1:(none)=some r:=by rw[if_neg (show¬(false=true) by decide)]at H;exact H
             clear H;have H:=H1;clear H1;exact absurd H (by simp)
           ·rw[if_neg c130]at H;exact absurd H (by simp)
          ·rw[if_neg c126]at H;have c126b0:(aY == 0)=false:=beq_eq_false_iff_ne.mpr c126;have c126b1:(aY != 0)=true:=bne_iff_ne.mpr c126;obtain rfl:=Option.some.inj H;go_wp2;go_ret;exact⟨qE,qK1 HB.out aM.out⟩
def laws_FnWays.Pure:Prop:=∀(l0:List Int),l0.length≤maxLen→l0.length*1≤140737488351232→(∀x∈l0,(Lit.int .u8 x).wf=true)→ ∃k,laws_FnWays.f k l0=some true
theorem laws_FnWays.walk (P:laws_FnWays.Pure) (a0:Option Addr) (aB aA:Nat) (z0:List Int) (w:World) (w0:(a0=none∧aB=0∧aA=0∧z0= [])∨ ∃x,a0=some x∧aB≤aA∧aA≤maxLen∧z0.length=aA∧(∀i,i<z0.length→w.cell? (x.add i)=some (.int .u8 (z0.getD i 0)))∧ ∀n∈z0,(Lit.int .u8 n).wf=true) (y0:aB*1≤140737488351232) (hT:LwT w):
  Calls Tryz.prog 3 #[.slice a0 aB aA] w fun e w'=>e= .returned (.bool true)∧Below w.heap.size w w':=by
 obtain⟨l0,rfl,aF,aE,aC,aD⟩:=ReadsInt.ofRowC w0;obtain⟨k,h⟩:=P l0 aE y0 aC;refine(laws_FnWays.calls k _ _ l0 true w (Kd.C_of_reads (d:=(0:Int)) (h1:=fun _=>rfl) aF) aD h hT).mono ?_;rintro e w' ⟨rfl,hd⟩;exact⟨rfl,hd⟩
end Go.Proofs.YtifdihbndlmgpaaGreatDoor.HWys
