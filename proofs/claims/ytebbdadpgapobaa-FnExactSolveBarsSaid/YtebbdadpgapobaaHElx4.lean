-- Written by a program for this claim (the functions that the statement reaches, and that the program's code comes to them).
import Derived.Test.YtebbdadpgapobaaHElx0
import Derived.Test.YtebbdadpgapobaaHElx3
namespace Go.Proofs.Ytebbdadpgapobaa.HEl
open Go.RowKit Go.Proofs.YtebbdadpgapobaaW.PrintWords Go.Proofs.YtebbdadpgapobaaW.PrintLast Go.Proofs.YtebbdadpgapobaaW.PrintMore
attribute [local go_sem] max2_int min2_int max_two min_two max_three min_three max_four min_four
set_option linter.unusedVariables false
set_option linter.unusedSimpArgs false
/-! ### impl_ValidFrame: function 53 -/
mutual
def impl_ValidFrame.j0:Nat→Bool→List (S90)→List (S104)→Option (Bool)
 |0,_,_,_=>none
 |k+1,aC,aA,aB=>if aC=true then(some false)else(impl_ValidFrame.l0 k aA (aA.length:Int) 0 aA aB)
def impl_ValidFrame.l0:Nat→List (S90)→Int→Int→List (S90)→List (S104)→Option (Bool)
 |0,_,_,_,_,_=>none
 |k+1,aD,aE,aC,aB,aA=>if aC<aE then(if 0≤aC then(if aC<(aD.length:Int)then((impl_within.f ((rd_T90 aD aC).f0) 0 12).bind fun aF=>(if aF=true then((impl_within.f ((rd_T90 aD aC).f1) 0 12).bind fun aG=>(impl_ValidFrame.j2 k aC aD aE aC (!aG) aB aA ((rd_T90 aD aC).f0) ((rd_T90 aD aC).f1) ((rd_T90 aD aC).f2)))else(impl_ValidFrame.j2 k aC aD aE aC true aB aA ((rd_T90 aD aC).f0) ((rd_T90 aD aC).f1) ((rd_T90 aD aC).f2))))else(none))else(none))else(impl_ValidFrame.l2 k aA (aA.length:Int) 0 aB aA)
def impl_ValidFrame.j2:Nat→Int→List (S90)→Int→Int→Bool→List (S90)→List (S104)→Int→Int→Bool→Option (Bool)
 |0,_,_,_,_,_,_,_,_,_,_=>none
 |k+1,x3,aG,aJ,aI,aH,aA,aD,aE,aC,aB=>if aH=true then(some false)else(if 0≤x3 then(if x3≤(aA.length:Int)then((some (aA.take (x3:Int).toNat:List (S90))).bind fun aF=>(impl_ValidFrame.l1 k aG aJ aI aF (aF.length:Int) 0 aA aD aE aC aB))else(none))else(none))
def impl_ValidFrame.l1:Nat→List (S90)→Int→Int→List (S90)→Int→Int→List (S90)→List (S104)→Int→Int→Bool→Option (Bool)
 |0,_,_,_,_,_,_,_,_,_,_,_=>none
 |k+1,aH,aK,aJ,aG,aI,aF,aD,aB,aC,aA,aE=>if aF<aI then(if 0≤aF then(if aF<(aG.length:Int)then(if((rd_T90 aG aF).f0)=aC then(if((rd_T90 aG aF).f1)=aA then(some false)else(impl_ValidFrame.l1 k aH aK aJ aG aI (wrap64 (aF+1)) aD aB aC aA aE))else(impl_ValidFrame.l1 k aH aK aJ aG aI (wrap64 (aF+1)) aD aB aC aA aE))else(none))else(none))else(impl_ValidFrame.l0 k aH aK (wrap64 (aJ+1)) aD aB)
def impl_ValidFrame.l2:Nat→List (S104)→Int→Int→List (S90)→List (S104)→Option (Bool)
 |0,_,_,_,_,_=>none
 |k+1,aC,aE,aB,aA,aD=>if aB<aE then(if 0≤aB then(if aB<(aC.length:Int)then(if((rd_T104 aC aB).f0)<0 then(impl_ValidFrame.j5 k aB aC aE aB true aA aD ((rd_T104 aC aB).f0) ((rd_T104 aC aB).f1) ((rd_T104 aC aB).f2))else(if((rd_T104 aC aB).f0)≥((rd_T104 aC aB).f1)then(impl_ValidFrame.j5 k aB aC aE aB true aA aD ((rd_T104 aC aB).f0) ((rd_T104 aC aB).f1) ((rd_T104 aC aB).f2))else(if((rd_T104 aC aB).f1)≥(aA.length:Int)then(impl_ValidFrame.j5 k aB aC aE aB true aA aD ((rd_T104 aC aB).f0) ((rd_T104 aC aB).f1) ((rd_T104 aC aB).f2))else(if 0≤((rd_T104 aC aB).f0)then(if((rd_T104 aC aB).f0)<(aA.length:Int)then(if(rd_T90 aA ((rd_T104 aC aB).f0)).f2=true then(if 0≤((rd_T104 aC aB).f1)then(if((rd_T104 aC aB).f1)<(aA.length:Int)then(impl_ValidFrame.j5 k aB aC aE aB ((rd_T90 aA ((rd_T104 aC aB).f1)).f2) aA aD ((rd_T104 aC aB).f0) ((rd_T104 aC aB).f1) ((rd_T104 aC aB).f2))else(none))else(none))else(impl_ValidFrame.j5 k aB aC aE aB false aA aD ((rd_T104 aC aB).f0) ((rd_T104 aC aB).f1) ((rd_T104 aC aB).f2)))else(none))else(none)))))else(none))else(none))else(some true)
def impl_ValidFrame.j5:Nat→Int→List (S104)→Int→Int→Bool→List (S90)→List (S104)→Int→Int→Bool→Option (Bool)
 |0,_,_,_,_,_,_,_,_,_,_=>none
 |k+1,x7,aI,aJ,aH,aG,aE,aA,aB,aC,aD=>if aG=true then(some false)else(if 0≤x7 then(if x7≤(aA.length:Int)then((some (aA.take (x7:Int).toNat:List (S104))).bind fun aF=>(impl_ValidFrame.l3 k aI aJ aH aF (aF.length:Int) 0 aE aA aB aC aD))else(none))else(none))
def impl_ValidFrame.l3:Nat→List (S104)→Int→Int→List (S104)→Int→Int→List (S90)→List (S104)→Int→Int→Bool→Option (Bool)
 |0,_,_,_,_,_,_,_,_,_,_,_=>none
 |k+1,aJ,aK,aI,aG,aH,aE,aD,aC,aA,aB,aF=>if aE<aH then(if 0≤aE then(if aE<(aG.length:Int)then(if((rd_T104 aG aE).f0)=aA then(if((rd_T104 aG aE).f1)=aB then(some false)else(impl_ValidFrame.l3 k aJ aK aI aG aH (wrap64 (aE+1)) aD aC aA aB aF))else(impl_ValidFrame.l3 k aJ aK aI aG aH (wrap64 (aE+1)) aD aC aA aB aF))else(none))else(none))else(impl_ValidFrame.l2 k aJ aK (wrap64 (aI+1)) aD aC)
end
def impl_ValidFrame.f (k:Nat) (aB:List (S90)) (aA:List (S104)):Option (Bool):=if(aB.length:Int) > 8 then(impl_ValidFrame.j0 k true aB aA)else(if(aA.length:Int) > 8 then(impl_ValidFrame.j0 k true aB aA)else((impl_freeKnots.f k aB aA).bind fun aC=>(impl_ValidFrame.j0 k (decide ((aC.length:Int) > 3)) aB aA)))
theorem impl_ValidFrame.mono_l: ∀k,(∀y0 y1 y2,LeO (impl_ValidFrame.j0 k y0 y1 y2) (impl_ValidFrame.j0 (k+1) y0 y1 y2))∧(∀y0 y1 y2 y3 y4,LeO (impl_ValidFrame.l0 k y0 y1 y2 y3 y4) (impl_ValidFrame.l0 (k+1) y0 y1 y2 y3 y4))∧(∀y0 y1 y2 y3 y4 y5 y6 y7 y8 y9,LeO (impl_ValidFrame.j2 k y0 y1 y2 y3 y4 y5 y6 y7 y8 y9) (impl_ValidFrame.j2 (k+1) y0 y1 y2 y3 y4 y5 y6 y7 y8 y9))∧(∀y0 y1 y2 y3 y4 y5 y6 y7 y8 y9 aD,LeO (impl_ValidFrame.l1 k y0 y1 y2 y3 y4 y5 y6 y7 y8 y9 aD) (impl_ValidFrame.l1 (k+1) y0 y1 y2 y3 y4 y5 y6 y7 y8 y9 aD))∧(∀y0 y1 y2 y3 y4,LeO (impl_ValidFrame.l2 k y0 y1 y2 y3 y4) (impl_ValidFrame.l2 (k+1) y0 y1 y2 y3 y4))∧(∀y0 y1 y2 y3 y4 y5 y6 y7 y8 y9,LeO (impl_ValidFrame.j5 k y0 y1 y2 y3 y4 y5 y6 y7 y8 y9) (impl_ValidFrame.j5 (k+1) y0 y1 y2 y3 y4 y5 y6 y7 y8 y9))∧(∀y0 y1 y2 y3 y4 y5 y6 y7 y8 y9 aD,LeO (impl_ValidFrame.l3 k y0 y1 y2 y3 y4 y5 y6 y7 y8 y9 aD) (impl_ValidFrame.l3 (k+1) y0 y1 y2 y3 y4 y5 y6 y7 y8 y9 aD))
 |0=>⟨fun _ _ _ r h=>by simp[impl_ValidFrame.j0]at h,fun _ _ _ _ _ r h=>by simp[impl_ValidFrame.l0]at h,fun _ _ _ _ _ _ _ _ _ _ r h=>by simp[impl_ValidFrame.j2]at h,fun _ _ _ _ _ _ _ _ _ _ _ r h=>by simp[impl_ValidFrame.l1]at h,fun _ _ _ _ _ r h=>by simp[impl_ValidFrame.l2]at h,fun _ _ _ _ _ _ _ _ _ _ r h=>by simp[impl_ValidFrame.j5]at h,fun _ _ _ _ _ _ _ _ _ _ _ r h=>by simp[impl_ValidFrame.l3]at h⟩
 |k+1=>by
  obtain⟨aC,aH,aA,aB,aF,aE,aG⟩:=impl_ValidFrame.mono_l k
  refine⟨?_,?_,?_,?_,?_,?_,?_⟩
  ·intro y0 y1 y2
   unfold impl_ValidFrame.j0
   repeat' first
   |(with_reducible exact aC _ _ _)
   |(with_reducible exact aH _ _ _ _ _)
   |(with_reducible exact aA _ _ _ _ _ _ _ _ _ _)
   |(with_reducible exact aB _ _ _ _ _ _ _ _ _ _ _)
   |(with_reducible exact aF _ _ _ _ _)
   |(with_reducible exact aE _ _ _ _ _ _ _ _ _ _)
   |(with_reducible exact aG _ _ _ _ _ _ _ _ _ _ _)
   |(with_reducible exact impl_freeKnots.mono _ _ _)
   |(with_reducible exact LeO.refl _)
   |(with_reducible exact LeO.none _)
   |(with_reducible refine LeO.ite ?_ ?_)
   |(with_reducible refine LeO.bind ?_ (fun _=>?_))
   |exact LeO.none _
   |refine LeO.ite ?_ ?_
   |refine LeO.bind ?_ (fun _=>?_)
  ·intro y0 y1 y2 y3 y4
   unfold impl_ValidFrame.l0
   repeat' first
   |(with_reducible exact aC _ _ _)
   |(with_reducible exact aH _ _ _ _ _)
   |(with_reducible exact aA _ _ _ _ _ _ _ _ _ _)
   |(with_reducible exact aB _ _ _ _ _ _ _ _ _ _ _)
   |(with_reducible exact aF _ _ _ _ _)
   |(with_reducible exact aE _ _ _ _ _ _ _ _ _ _)
   |(with_reducible exact aG _ _ _ _ _ _ _ _ _ _ _)
   |(with_reducible exact impl_freeKnots.mono _ _ _)
   |(with_reducible exact LeO.refl _)
   |(with_reducible exact LeO.none _)
   |(with_reducible refine LeO.ite ?_ ?_)
   |(with_reducible refine LeO.bind ?_ (fun _=>?_))
   |exact LeO.none _
   |refine LeO.ite ?_ ?_
   |refine LeO.bind ?_ (fun _=>?_)
  ·intro y0 y1 y2 y3 y4 y5 y6 y7 y8 y9
   unfold impl_ValidFrame.j2
   repeat' first
   |(with_reducible exact aC _ _ _)
   |(with_reducible exact aH _ _ _ _ _)
   |(with_reducible exact aA _ _ _ _ _ _ _ _ _ _)
   |(with_reducible exact aB _ _ _ _ _ _ _ _ _ _ _)
   |(with_reducible exact aF _ _ _ _ _)
   |(with_reducible exact aE _ _ _ _ _ _ _ _ _ _)
   |(with_reducible exact aG _ _ _ _ _ _ _ _ _ _ _)
   |(with_reducible exact impl_freeKnots.mono _ _ _)
   |(with_reducible exact LeO.refl _)
   |(with_reducible exact LeO.none _)
   |(with_reducible refine LeO.ite ?_ ?_)
   |(with_reducible refine LeO.bind ?_ (fun _=>?_))
   |exact LeO.none _
   |refine LeO.ite ?_ ?_
   |refine LeO.bind ?_ (fun _=>?_)
  ·intro y0 y1 y2 y3 y4 y5 y6 y7 y8 y9 aD
   unfold impl_ValidFrame.l1
   repeat' first
   |(with_reducible exact aC _ _ _)
   |(with_reducible exact aH _ _ _ _ _)
   |(with_reducible exact aA _ _ _ _ _ _ _ _ _ _)
   |(with_reducible exact aB _ _ _ _ _ _ _ _ _ _ _)
   |(with_reducible exact aF _ _ _ _ _)
   |(with_reducible exact aE _ _ _ _ _ _ _ _ _ _)
   |(with_reducible exact aG _ _ _ _ _ _ _ _ _ _ _)
   |(with_reducible exact impl_freeKnots.mono _ _ _)
   |(with_reducible exact LeO.refl _)
   |(with_reducible exact LeO.none _)
   |(with_reducible refine LeO.ite ?_ ?_)
   |(with_reducible refine LeO.bind ?_ (fun _=>?_))
   |exact LeO.none _
   |refine LeO.ite ?_ ?_
   |refine LeO.bind ?_ (fun _=>?_)
  ·intro y0 y1 y2 y3 y4
   unfold impl_ValidFrame.l2
   repeat' first
   |(with_reducible exact aC _ _ _)
   |(with_reducible exact aH _ _ _ _ _)
   |(with_reducible exact aA _ _ _ _ _ _ _ _ _ _)
   |(with_reducible exact aB _ _ _ _ _ _ _ _ _ _ _)
   |(with_reducible exact aF _ _ _ _ _)
   |(with_reducible exact aE _ _ _ _ _ _ _ _ _ _)
   |(with_reducible exact aG _ _ _ _ _ _ _ _ _ _ _)
   |(with_reducible exact impl_freeKnots.mono _ _ _)
   |(with_reducible exact LeO.refl _)
   |(with_reducible exact LeO.none _)
   |(with_reducible refine LeO.ite ?_ ?_)
   |(with_reducible refine LeO.bind ?_ (fun _=>?_))
   |exact LeO.none _
   |refine LeO.ite ?_ ?_
   |refine LeO.bind ?_ (fun _=>?_)
  ·intro y0 y1 y2 y3 y4 y5 y6 y7 y8 y9
   unfold impl_ValidFrame.j5
   repeat' first
   |(with_reducible exact aC _ _ _)
   |(with_reducible exact aH _ _ _ _ _)
   |(with_reducible exact aA _ _ _ _ _ _ _ _ _ _)
   |(with_reducible exact aB _ _ _ _ _ _ _ _ _ _ _)
   |(with_reducible exact aF _ _ _ _ _)
   |(with_reducible exact aE _ _ _ _ _ _ _ _ _ _)
   |(with_reducible exact aG _ _ _ _ _ _ _ _ _ _ _)
   |(with_reducible exact impl_freeKnots.mono _ _ _)
   |(with_reducible exact LeO.refl _)
   |(with_reducible exact LeO.none _)
   |(with_reducible refine LeO.ite ?_ ?_)
   |(with_reducible refine LeO.bind ?_ (fun _=>?_))
   |exact LeO.none _
   |refine LeO.ite ?_ ?_
   |refine LeO.bind ?_ (fun _=>?_)
  ·intro y0 y1 y2 y3 y4 y5 y6 y7 y8 y9 aD
   unfold impl_ValidFrame.l3
   repeat' first
   |(with_reducible exact aC _ _ _)
   |(with_reducible exact aH _ _ _ _ _)
   |(with_reducible exact aA _ _ _ _ _ _ _ _ _ _)
   |(with_reducible exact aB _ _ _ _ _ _ _ _ _ _ _)
   |(with_reducible exact aF _ _ _ _ _)
   |(with_reducible exact aE _ _ _ _ _ _ _ _ _ _)
   |(with_reducible exact aG _ _ _ _ _ _ _ _ _ _ _)
   |(with_reducible exact impl_freeKnots.mono _ _ _)
   |(with_reducible exact LeO.refl _)
   |(with_reducible exact LeO.none _)
   |(with_reducible refine LeO.ite ?_ ?_)
   |(with_reducible refine LeO.bind ?_ (fun _=>?_))
   |exact LeO.none _
   |refine LeO.ite ?_ ?_
   |refine LeO.bind ?_ (fun _=>?_)
theorem impl_ValidFrame.mono: ∀a0 a1 k,LeO (impl_ValidFrame.f k a0 a1) (impl_ValidFrame.f (k+1) a0 a1):=by
 intro a0 a1 k
 obtain⟨aC,aG,aA,aB,aE,aD,aF⟩:=impl_ValidFrame.mono_l k
 unfold impl_ValidFrame.f
 repeat' first
  |(with_reducible exact aC _ _ _)
  |(with_reducible exact aG _ _ _ _ _)
  |(with_reducible exact aA _ _ _ _ _ _ _ _ _ _)
  |(with_reducible exact aB _ _ _ _ _ _ _ _ _ _ _)
  |(with_reducible exact aE _ _ _ _ _)
  |(with_reducible exact aD _ _ _ _ _ _ _ _ _ _)
  |(with_reducible exact aF _ _ _ _ _ _ _ _ _ _ _)
  |(with_reducible exact impl_freeKnots.mono _ _ _)
  |(with_reducible exact LeO.refl _)
  |(with_reducible exact LeO.none _)
  |(with_reducible refine LeO.ite ?_ ?_)
  |(with_reducible refine LeO.bind ?_ (fun _=>?_))
  |exact LeO.none _
  |refine LeO.ite ?_ ?_
  |refine LeO.bind ?_ (fun _=>?_)
set_option maxHeartbeats 8000000 in
set_option maxRecDepth 100000 in
theorem impl_ValidFrame.calls (k:Nat) (cG:Option Addr) (bT:Nat) (aC:List (S90)) (cX:Option Addr) (bS:Nat) (aB:List (S104)) (r:Bool) (w:World) (jI:Kd.C k90 w cG aC.length aC) (jP:aC.length≤bT) (jK:Kd.C k104 w cX aB.length aB) (jQ:aB.length≤bS) (h:impl_ValidFrame.f k aC aB=some r):
 Calls Try.prog 53 #[.agg #[.slice cG aC.length bT,.slice cX aB.length bS]] w fun e w'=>e= .returned (.bool r)∧Below w.heap.size w w':=by
 have pM:=Try.underlying33;have pP:=Try.underlying90;have oB:=Try.underlying104;have eG:=A' jI;have jT:=A' jP;clear jI jP;have iV:=A' jK;have jU:=A' jQ;clear jK jQ;have HB:=A' (Below.refl w.heap.size w);have H:(if(aC.length:Int) > 8 then(impl_ValidFrame.j0 k true aC aB)else(if(aB.length:Int) > 8 then(impl_ValidFrame.j0 k true aC aB)else((impl_freeKnots.f k aC aB).bind fun iX=>(impl_ValidFrame.j0 k (decide ((iX.length:Int) > 3)) aC aB))))=some r:=h;clear h;have mT:=A' H;clear H;go_enter Try.func53,Try.ntmps53;go_upto_region 1 with (first|((with_reducible refine gate_dst (N:=1) rfl ?_);(try(refine gate_guard (by rfl) ?_;dsimp only));refine box_event ?hg (N:=1) ?hd (cs:=#[.slice cG aC.length bT,.slice cX aB.length bS]) (t:=33) ?hr ?_;(case hd=>rfl);(case hg=>rfl);(case hr=>first|(go_simp;done)|(go_simp;rfl));intro aH hg w3 hbox hb;have n0_:=A' (W' (qK0 HB.out) hb);have n1_:=A' (hbox);have n2_:=A' ((by rw[hg];exact(V' (qK0 HB.out)):w.heap.size≤aH));have n3_:=A' ((by rw[hg];exact(V' (qK0 HB.out)):w.heap.size≤aH));clear HB;have HB:=n0_;have aD:=n1_;have pG:=n2_;have aK:=n3_;clear n0_ n1_ n2_ n3_;clear hb hbox hg))
 (try simp only[Act.put,List.setIfInBounds_toArray,List.set_cons_zero,List.set_cons_succ])
 go_cut [26] (fun pR wc=>∃(kq:Nat) (hO:Bool),pR= .bool hO∧Aside0 (impl_ValidFrame.j0 kq hO aC aB=some r)∧Aside0 (kq≤k)∧Aside0 (wc.heap[aH]? =some (.cells #[(.slice cG aC.length bT),(.slice cX aB.length bS)] 33 (0,0)))∧Aside0 (Below w.heap.size w wc))
 case first=>
  have H:=mT.out;clear mT
  by_cases c4:(aC.length:Int) > 8
  ·rw[if_pos c4]at H;have c4b0:decide (8<(aC.length:Int))=true:=dT' c4;have c4b1:decide (8<aC.length)=true:=dT' (by omega);clear c4;(first|rw[c4b0]|(simp only[i64_w,i32_w];rw[c4b0])|skip);have H':=A' H;clear H;have cQ:w3.cell? ⟨aH,0,none⟩=some (.slice cG aC.length bT):=(N' aD.out 0).trans rfl;have cT:w3.cell? ⟨aH,1,none⟩=some (.slice cX aB.length bS):=(N' aD.out 1).trans rfl;have cW:=Y' aD.out 0;have cM:=Y' aD.out 1;go_wp2
   go_meet
   case rel=>exact⟨_,(true),qS,H',⟨by first|omega|exact Nat.le_refl _⟩,⟨qB aD.out⟩,⟨qK1 HB.out aK.out⟩⟩
  ·rw[if_neg c4]at H;have c4b0:decide (8<(aC.length:Int))=false:=dF' c4;have c4b1:decide (8<aC.length)=false:=dF' (by omega);clear c4;(first|rw[c4b0]|(simp only[i64_w,i32_w];rw[c4b0])|skip)
   by_cases c6:(aB.length:Int) > 8
   ·rw[if_pos c6]at H;have c6b0:decide (8<(aB.length:Int))=true:=dT' c6;have c6b1:decide (8<aB.length)=true:=dT' (by omega);clear c6;have H':=A' H;clear H;have cR:w3.cell? ⟨aH,0,none⟩=some (.slice cG aC.length bT):=(N' aD.out 0).trans rfl;have cN:w3.cell? ⟨aH,1,none⟩=some (.slice cX aB.length bS):=(N' aD.out 1).trans rfl;have cS:=Y' aD.out 0;have cL:=Y' aD.out 1;go_wp2
    go_meet
    case rel=>exact⟨_,(true),qS,H',⟨by first|omega|exact Nat.le_refl _⟩,⟨qB aD.out⟩,⟨qK1 HB.out aK.out⟩⟩
   ·rw[if_neg c6]at H;have c6b0:decide (8<(aB.length:Int))=false:=dF' c6;have c6b1:decide (8<aB.length)=false:=dF' (by omega);clear c6;replace H:=Option.bind_eq_some_iff.mp H;obtain⟨iX,nN,H⟩:=H;replace H:(impl_ValidFrame.j0 k (decide ((iX.length:Int) > 3)) aC aB)=some r:=H;have A8:=A' nN;clear nN;have H':=A' H;clear H;have cV:w3.cell? ⟨aH,0,none⟩=some (.slice cG aC.length bT):=(N' aD.out 0).trans rfl;have cP:w3.cell? ⟨aH,1,none⟩=some (.slice cX aB.length bS):=(N' aD.out 1).trans rfl;have cO:=Y' aD.out 0;have cU:=Y' aD.out 1;go_wp2_with (first|(go_at_call 58;(with_reducible refine(impl_freeKnots.calls k _ _ aC _ _ aB iX _ ?mA ?kW ?kL ?lT A8.out).mono ?_);(case mA=>exact qT (X' eG.out HB.out));(case kW=>exact jT.out);(case kL=>exact qT (X' iV.out HB.out));(case lT=>exact jU.out);rintro e pU ⟨pQ,rfl,nT,hb⟩;have n0_:=A' (Kd.R_lower nT (V' (qK1 HB.out aK.out)));have n1_:=A' (O' (g:=aH) (qB aD.out) hb);have n2_:=A' (W' (qK1 HB.out aK.out) hb);clear aD;clear HB;have kY:=n0_;have aD:=n1_;have HB:=n2_;clear n0_ n1_ n2_;(try clear hb);(try clear hb2);(try clear hk);(try clear hi);(try clear nT);obtain⟨pI,pO,mP⟩:=Kd.R_slice kY.out;subst mP))
    go_meet
    case rel=>exact⟨_,(decide ((iX.length:Int) > 3)),qS,H',⟨by first|omega|exact Nat.le_refl _⟩,⟨qB aD.out⟩,⟨qK1 HB.out aK.out⟩⟩
 case rest=>
  clear mT;try clear p2
  try clear c4
  try clear c4b0
  try clear c4b1
  try clear c5
  try clear c6
  try clear c6b0
  try clear c6b1
  try clear cQ
  try clear cT
  try clear cR
  try clear cN
  try clear cV
  try clear cP
  try clear cW
  try clear cM
  try clear cS
  try clear cL
  try clear cO
  try clear cU
  obtain⟨kq,hO,rfl,HA,fK,aD,HB⟩:=hcut
  cases kq with
  |zero=>exact absurd HA.out (by simp[impl_ValidFrame.j0])
  |succ nA=>
   have H:=HA.out;clear HA;simp only[impl_ValidFrame.j0]at H
   by_cases iZ:hO=true
   ·subst iZ;have H1:(some false)=some r:=by rw[if_pos rfl]at H;exact H
    clear H;have H:=H1;clear H1;obtain rfl:=Option.some.inj H;go_wp2;go_ret;exact⟨qE,qK1 HB.out aK.out⟩
   ·replace iZ:=Bool.eq_false_iff.mpr iZ;subst iZ;have H1:(impl_ValidFrame.l0 nA aC (aC.length:Int) 0 aC aB)=some r:=by rw[if_neg (show¬(false=true) by decide)]at H;exact H
    clear H;have H:=H1;clear H1;have H':=A' H;clear H;have cH:wc.cell? ⟨aH,0,none⟩=some (.slice cG aC.length bT):=(N' aD.out 0).trans rfl;have cJ:wc.cell? ⟨aH,1,none⟩=some (.slice cX aB.length bS):=(N' aD.out 1).trans rfl;have cK:=Y' aD.out 0;have cI:=Y' aD.out 1;go_wp2
    go_loopg [30] nA (fun kq pS w'=>∃(aE:Int),pS= .int .i64 aE∧Aside0 (impl_ValidFrame.l0 kq aC (aC.length:Int) aE aC aB=some r)∧Aside0 (kq≤nA)∧Aside0 (w'.heap[aH]? =some (.cells #[(.slice cG aC.length bT),(.slice cX aB.length bS)] 33 (0,0)))∧Aside0 (Below w.heap.size w w'))
    case atStart=>exact⟨(0),qS,H',⟨Nat.le_refl _⟩,⟨qB aD.out⟩,⟨qK1 HB.out aK.out⟩⟩
    case round=>
     clear H';try clear c1
     try clear p2
     try clear c4
     try clear c4b0
     try clear c4b1
     try clear c5
     try clear c6
     try clear c6b0
     try clear c6b1
     try clear iZ
     try clear cH
     try clear cJ
     try clear cQ
     try clear cT
     try clear cR
     try clear cN
     try clear cV
     try clear cP
     try clear cK
     try clear cI
     try clear cW
     try clear cM
     try clear cS
     try clear cL
     try clear cO
     try clear cU
     try clear p2
     obtain⟨aE,rfl,HA,fL,aD,HB⟩:=hrel
     cases gk with
     |zero=>exact absurd HA.out (by simp[impl_ValidFrame.l0])
     |succ k2=>
      have H:=HA.out;clear HA;simp only[impl_ValidFrame.l0]at H
      by_cases c14:aE<(aC.length:Int)
      ·rw[if_pos c14]at H;have c14b0:decide (aE<(aC.length:Int))=true:=dT' c14;clear c14
       by_cases c15:0≤aE
       ·rw[if_pos c15]at H;have c15b0:decide (0≤aE)=true:=dT' c15;clear c15
        by_cases c16:aE<(aC.length:Int)
        ·rw[if_pos c16]at H;have c16b0:decide (aE<(aC.length:Int))=true:=dT' c16;clear c16;have kA:=A' H;clear H;have gF:0≤(aE:Int):=oD' qA;have gA:aE<(aC.length:Int):=oD' qA;obtain⟨dT,nC,cD,cB,cC⟩:=at_T90 eG.out aE gF gA
         cases nC
         try replace cD:=qC HB.out cD
         try replace cB:=qC HB.out cB
         try replace cC:=qC HB.out cC
         replace gF:=eq_true gF;replace gA:=eq_true gA;go_upto_region 6 with (first|((with_reducible refine gate_dst (N:=4) rfl ?_);(try(refine gate_guard (by rfl) ?_;dsimp only));refine box_event ?hg (N:=4) ?hd (cs:=#[.int .i64 0,.int .i64 0,.bool false]) (t:=90) ?hr ?_;(case hd=>rfl);(case hg=>rfl);(case hr=>first|(go_simp;done)|(go_simp;rfl));intro aQ hg jB hbox hb;have n0_:=A' (O' (g:=aH) (qB aD.out) hb);have n1_:=A' (W' (qK1 HB.out aK.out) hb);have n2_:=A' (hbox);have n3_:=A' ((by rw[hg];exact(V' (qK1 HB.out aK.out)):w.heap.size≤aQ));have n4_:=A' ((by rw[hg];exact(V' (qK1 HB.out aK.out)):w.heap.size≤aQ));have n5_:=A' ((by rw[hg];exact Nat.ne_of_lt (bL' (g:=aH) (qB aD.out)):aH≠aQ));have n6_:=A' ((by rw[hg];exact Nat.ne_of_gt (bL' (g:=aH) (qB aD.out)):aQ≠aH));clear aD;clear HB;have aD:=n0_;have HB:=n1_;have aJ:=n2_;have nQ:=n3_;have bR:=n4_;have aT:=n5_;have bP:=n6_;clear n0_ n1_ n2_ n3_ n4_ n5_ n6_;clear hb hbox hg;have oN:=bP.out;have oM:=aT.out;have dA:jB.cell? ⟨aQ,0,none⟩=some (.int .i64 0):=(N' aJ.out 0).trans rfl;have dF:jB.cell? ⟨aQ,1,none⟩=some (.int .i64 0):=(N' aJ.out 1).trans rfl;have dQ:jB.cell? ⟨aQ,2,none⟩=some (.bool false):=(N' aJ.out 2).trans rfl;have dG:=Y' aJ.out 0;have dP:=Y' aJ.out 1;have dB:=Y' aJ.out 2))
         (try simp only[Act.put,List.setIfInBounds_toArray,List.set_cons_zero,List.set_cons_succ])
         go_cut [44] (fun pT wc=>∃(kq:Nat) (eY:Bool),pT= .bool eY∧Aside0 (impl_ValidFrame.j2 kq aE aC (aC.length:Int) aE eY aC aB ((rd_T90 aC aE).f0) ((rd_T90 aC aE).f1) ((rd_T90 aC aE).f2)=some r)∧Aside0 (kq≤k2)∧Aside0 (wc.heap[aH]? =some (.cells #[(.slice (some dT) aC.length bT),(.slice cX aB.length bS)] 33 (0,0)))∧Aside0 (wc.heap[aQ]? =some (.cells #[.int .i64 ((rd_T90 aC aE).f0),.int .i64 ((rd_T90 aC aE).f1),.bool ((rd_T90 aC aE).f2)] 90 (0,0)))∧Aside0 (Below w.heap.size w wc))
         case first=>
          have H:=kA.out;clear kA;replace H:=Option.bind_eq_some_iff.mp H;obtain⟨lH,kO,H⟩:=H;replace H:(if lH=true then((impl_within.f ((rd_T90 aC aE).f1) 0 12).bind fun gI=>(impl_ValidFrame.j2 k2 aE aC (aC.length:Int) aE (!gI) aC aB ((rd_T90 aC aE).f0) ((rd_T90 aC aE).f1) ((rd_T90 aC aE).f2)))else(impl_ValidFrame.j2 k2 aE aC (aC.length:Int) aE true aC aB ((rd_T90 aC aE).f0) ((rd_T90 aC aE).f1) ((rd_T90 aC aE).f2)))=some r:=H;have nK:=A' kO;clear kO
          by_cases jG:lH=true
          ·subst jG;have H1:((impl_within.f ((rd_T90 aC aE).f1) 0 12).bind fun gI=>(impl_ValidFrame.j2 k2 aE aC (aC.length:Int) aE (!gI) aC aB ((rd_T90 aC aE).f0) ((rd_T90 aC aE).f1) ((rd_T90 aC aE).f2)))=some r:=by rw[if_pos rfl]at H;exact H
           clear H;have H:=H1;clear H1;replace H:=Option.bind_eq_some_iff.mp H;obtain⟨gI,mE,H⟩:=H;replace H:(impl_ValidFrame.j2 k2 aE aC (aC.length:Int) aE (!gI) aC aB ((rd_T90 aC aE).f0) ((rd_T90 aC aE).f1) ((rd_T90 aC aE).f2))=some r:=H;have pN:=A' mE;clear mE;have H':=A' H;clear H;have nY:=bP.out;have oL:=aT.out;have dR:jB.cell? ⟨aQ,0,none⟩=some (.int .i64 0):=(N' aJ.out 0).trans rfl;have dE:jB.cell? ⟨aQ,1,none⟩=some (.int .i64 0):=(N' aJ.out 1).trans rfl;have dC:jB.cell? ⟨aQ,2,none⟩=some (.bool false):=(N' aJ.out 2).trans rfl;have cY:=Y' aJ.out 0;have dJ:=Y' aJ.out 1;have dH:=Y' aJ.out 2;go_wp2_with (first|((with_reducible refine gate_callee (f:=81) rfl ?_);refine goesL_ (some 37) rfl rfl Try.func81 (by kernel_rfl) rfl #[.int .i64 ((rd_T90 aC aE).f0),.int .i64 0,.int .i64 12] rfl (by(try simp only[List.map_toArray,List.map_cons,List.map_nil]);first|done|rfl|(simp only[List.length_drop,List.length_take];rfl)) ?_;(with_reducible refine(impl_within.calls ((rd_T90 aC aE).f0) 0 12 true _ nK.out).mono ?_);rintro e w' ⟨rfl,⟨nd,rfl⟩⟩;refine⟨_,rfl,?_⟩)|(go_at_call 81;(with_reducible refine(impl_within.calls ((rd_T90 aC aE).f1) 0 12 gI _ pN.out).mono ?_);rintro e w' ⟨rfl,⟨nd,rfl⟩⟩))
           go_meet
           case rel=>exact⟨_,(!gI),qS,H',⟨by have:=fK.out;have:=fL.out;first|omega|exact Nat.le_refl _⟩,⟨qG3 aD.out aT.out aT.out aT.out⟩,⟨by(with_reducible repeat(first|refine G' ?_ _|refine I' ?_|refine hA' ?_ _));refine blk_put (cs:=#[.int .i64 ((rd_T90 aC aE).f0),.int .i64 ((rd_T90 aC aE).f1),.bool false]) ?_ 2 _ rfl;(with_reducible repeat(first|refine G' ?_ _|refine I' ?_|refine hA' ?_ _));refine blk_put (cs:=#[.int .i64 ((rd_T90 aC aE).f0),.int .i64 0,.bool false]) ?_ 1 _ rfl;(with_reducible repeat(first|refine G' ?_ _|refine I' ?_|refine hA' ?_ _));refine blk_put (cs:=#[.int .i64 0,.int .i64 0,.bool false]) ?_ 0 _ rfl;(with_reducible repeat(first|refine G' ?_ _|refine I' ?_|refine hA' ?_ _));exact aJ.out⟩,⟨qK2 HB.out aK.out bR.out⟩⟩
          ·replace jG:=Bool.eq_false_iff.mpr jG;subst jG;have H1:(impl_ValidFrame.j2 k2 aE aC (aC.length:Int) aE true aC aB ((rd_T90 aC aE).f0) ((rd_T90 aC aE).f1) ((rd_T90 aC aE).f2))=some r:=by rw[if_neg (show¬(false=true) by decide)]at H;exact H
           clear H;have H:=H1;clear H1;have H':=A' H;clear H;have nV:=bP.out;have oP:=aT.out;have dI:jB.cell? ⟨aQ,0,none⟩=some (.int .i64 0):=(N' aJ.out 0).trans rfl;have dK:jB.cell? ⟨aQ,1,none⟩=some (.int .i64 0):=(N' aJ.out 1).trans rfl;have dD:jB.cell? ⟨aQ,2,none⟩=some (.bool false):=(N' aJ.out 2).trans rfl;have dL:=Y' aJ.out 0;have dO:=Y' aJ.out 1;have dN:=Y' aJ.out 2;go_wp2_with (first|((with_reducible refine gate_callee (f:=81) rfl ?_);refine goesL_ (some 37) rfl rfl Try.func81 (by kernel_rfl) rfl #[.int .i64 ((rd_T90 aC aE).f0),.int .i64 0,.int .i64 12] rfl (by(try simp only[List.map_toArray,List.map_cons,List.map_nil]);first|done|rfl|(simp only[List.length_drop,List.length_take];rfl)) ?_;(with_reducible refine(impl_within.calls ((rd_T90 aC aE).f0) 0 12 false _ nK.out).mono ?_);rintro e w' ⟨rfl,⟨nd,rfl⟩⟩;refine⟨_,rfl,?_⟩))
           go_meet
           case rel=>exact⟨_,(true),qS,H',⟨by have:=fK.out;have:=fL.out;first|omega|exact Nat.le_refl _⟩,⟨qG3 aD.out aT.out aT.out aT.out⟩,⟨by(with_reducible repeat(first|refine G' ?_ _|refine I' ?_|refine hA' ?_ _));refine blk_put (cs:=#[.int .i64 ((rd_T90 aC aE).f0),.int .i64 ((rd_T90 aC aE).f1),.bool false]) ?_ 2 _ rfl;(with_reducible repeat(first|refine G' ?_ _|refine I' ?_|refine hA' ?_ _));refine blk_put (cs:=#[.int .i64 ((rd_T90 aC aE).f0),.int .i64 0,.bool false]) ?_ 1 _ rfl;(with_reducible repeat(first|refine G' ?_ _|refine I' ?_|refine hA' ?_ _));refine blk_put (cs:=#[.int .i64 0,.int .i64 0,.bool false]) ?_ 0 _ rfl;(with_reducible repeat(first|refine G' ?_ _|refine I' ?_|refine hA' ?_ _));exact aJ.out⟩,⟨qK2 HB.out aK.out bR.out⟩⟩
         case rest=>
          clear kA;try clear c1
          try clear p1
          try clear q1
          try clear hx1
          try clear c2
          try clear p2
          try clear c4
          try clear c4b0
          try clear c4b1
          try clear c5
          try clear c6
          try clear c6b0
          try clear c6b1
          try clear c8
          try clear iZ
          try clear c14
          try clear c14b0
          try clear c15
          try clear c15b0
          try clear c16
          try clear c16b0
          try clear p16
          try clear q16
          try clear hx16
          try clear c19
          try clear jG
          try clear c24
          try clear c26
          try clear cH
          try clear cJ
          try clear dA
          try clear dF
          try clear dQ
          try clear dR
          try clear dE
          try clear dC
          try clear dI
          try clear dK
          try clear dD
          try clear cQ
          try clear cT
          try clear cR
          try clear cN
          try clear cV
          try clear cP
          try clear cK
          try clear cI
          try clear dG
          try clear dP
          try clear dB
          try clear cY
          try clear dJ
          try clear dH
          try clear dL
          try clear dO
          try clear dN
          try clear cW
          try clear cM
          try clear cS
          try clear cL
          try clear cO
          try clear cU
          try clear cD
          try clear cB
          try clear cC
          try clear gF
          try clear p2
          try clear gA
          obtain⟨kq,eY,rfl,HA,iK,aD,aJ,HB⟩:=hcut
          cases kq with
          |zero=>exact absurd HA.out (by simp[impl_ValidFrame.j2])
          |succ jA=>
           have H:=HA.out;clear HA;simp only[impl_ValidFrame.j2]at H
           by_cases jL:eY=true
           ·subst jL;have H1:(some false)=some r:=by rw[if_pos rfl]at H;exact H
            clear H;have H:=H1;clear H1;obtain rfl:=Option.some.inj H;go_wp2;go_ret;exact⟨qE,qK2 HB.out aK.out bR.out⟩
           ·replace jL:=Bool.eq_false_iff.mpr jL;subst jL;have H1:(if 0≤aE then(if aE≤(aC.length:Int)then((some (aC.take (aE:Int).toNat:List (S90))).bind fun bO=>(impl_ValidFrame.l1 jA aC (aC.length:Int) aE bO (bO.length:Int) 0 aC aB ((rd_T90 aC aE).f0) ((rd_T90 aC aE).f1) ((rd_T90 aC aE).f2)))else(none))else(none))=some r:=by rw[if_neg (show¬(false=true) by decide)]at H;exact H
            clear H;have H:=H1;clear H1
            by_cases c29:0≤aE
            ·rw[if_pos c29]at H;have c29b0:=eq_true c29;have c29b1:decide (0≤aE)=true:=dT' c29;clear c29
             by_cases c30:aE≤(aC.length:Int)
             ·rw[if_pos c30]at H;have c30b0:=eq_true c30;have c30b1:decide (aE≤(aC.length:Int))=true:=dT' c30;clear c30;obtain⟨bO,gE⟩: ∃y_:List (S90),y_=(aC.take (aE:Int).toNat):=⟨_,rfl⟩
              replace H:(impl_ValidFrame.l1 jA aC (aC.length:Int) aE bO (bO.length:Int) 0 aC aB ((rd_T90 aC aE).f0) ((rd_T90 aC aE).f1) ((rd_T90 aC aE).f2))=some r:=by first|(rw[gE];with_reducible exact H)|(have H2_:=(Option.bind_some _ _).symm.trans H;rw[gE];with_reducible exact H2_)|(have H2_:=(Option.bind_some _ _).symm.trans H;with_reducible exact H2_)|with_reducible exact H|(rw[gE];exact H)|exact H
              have jS:=A' gE;clear gE;have H':=A' H;clear H;have nR:=aT.out;have nS:=bP.out;have eC:wc.cell? ⟨aH,0,none⟩=some (.slice (some dT) aC.length bT):=(N' aD.out 0).trans rfl;have dU:wc.cell? ⟨aH,1,none⟩=some (.slice cX aB.length bS):=(N' aD.out 1).trans rfl;have eA:=Y' aD.out 0;have dV:=Y' aD.out 1;have iN:(aE:Int)≤((aC.length:Int):Int):=oD' qA;obtain⟨i033,jM,_,mB,_⟩:=info_parts info90;have gU:aC.length≤bT:=jT.out;have lM:Kd.C k90 _ (some dT) aC.length aC:=eG.out;have kD:=cut_to (P:=Try.prog) 30 90 .i64 Try.underlying30 jM (some dT) aC.length bT aE (oD' qA) iN gU;have jY:=Kd.C_take (m:=(aE:Int).toNat) lM (by omega);have jV:bO.length=(aE:Int).toNat:=(by rw[jS.out,List.length_take];omega)
              rw[← jS.out]at jY;rw[← jV]at kD;have iP:=A' jY;have oC:=A' (show bO.length≤bT from by omega);clear jY lM gU jM mB;have pL:=A' jV;clear jV;replace iN:=eq_true iN;go_wp2
              go_loopg [50] jA (fun kq pK w'=>∃(aU:Int),pK= .int .i64 aU∧Aside0 (impl_ValidFrame.l1 kq aC (aC.length:Int) aE bO (bO.length:Int) aU aC aB ((rd_T90 aC aE).f0) ((rd_T90 aC aE).f1) ((rd_T90 aC aE).f2)=some r)∧Aside0 (kq≤jA)∧Aside0 (w'.heap[aH]? =some (.cells #[(.slice (some dT) aC.length bT),(.slice cX aB.length bS)] 33 (0,0)))∧Aside0 (w'.heap[aQ]? =some (.cells #[.int .i64 ((rd_T90 aC aE).f0),.int .i64 ((rd_T90 aC aE).f1),.bool ((rd_T90 aC aE).f2)] 90 (0,0)))∧Aside0 (Below w.heap.size w w'))
              case atStart=>exact⟨(0),qS,H',⟨Nat.le_refl _⟩,⟨qB aD.out⟩,⟨qB aJ.out⟩,⟨qK2 HB.out aK.out bR.out⟩⟩
              case round=>
               clear H';try clear c1
               try clear p1
               try clear q1
               try clear hx1
               try clear c2
               try clear p2
               try clear c3
               try clear q3
               try clear c4
               try clear c4b0
               try clear c4b1
               try clear c5
               try clear c6
               try clear c6b0
               try clear c6b1
               try clear c8
               try clear iZ
               try clear c14
               try clear c14b0
               try clear c15
               try clear c15b0
               try clear c16
               try clear c16b0
               try clear p16
               try clear q16
               try clear hx16
               try clear c19
               try clear jG
               try clear c24
               try clear c26
               try clear jL
               try clear c29
               try clear c29b0
               try clear c29b1
               try clear c30
               try clear c30b0
               try clear c30b1
               try clear c31
               try clear iN
               try clear cH
               try clear cJ
               try clear dA
               try clear dF
               try clear dQ
               try clear dR
               try clear dE
               try clear dC
               try clear dI
               try clear dK
               try clear dD
               try clear eC
               try clear dU
               try clear cQ
               try clear cT
               try clear cR
               try clear cN
               try clear cV
               try clear cP
               try clear cK
               try clear cI
               try clear dG
               try clear dP
               try clear dB
               try clear cY
               try clear dJ
               try clear dH
               try clear dL
               try clear dO
               try clear dN
               try clear eA
               try clear dV
               try clear cW
               try clear cM
               try clear cS
               try clear cL
               try clear cO
               try clear cU
               try clear cD
               try clear cB
               try clear cC
               try clear p1
               try clear p16
               try clear gF
               try clear p2
               try clear q1
               try clear q16
               try clear gA
               try clear iN
               obtain⟨aU,rfl,HA,kJ,aD,aJ,HB⟩:=hrel
               cases gk with
               |zero=>exact absurd HA.out (by simp[impl_ValidFrame.l1])
               |succ k4=>
                have H:=HA.out;clear HA;simp only[impl_ValidFrame.l1]at H
                by_cases c34:aU<(bO.length:Int)
                ·rw[if_pos c34]at H;have c34b0:decide (aU<(bO.length:Int))=true:=dT' c34;clear c34
                 by_cases c35:0≤aU
                 ·rw[if_pos c35]at H;have c35b0:decide (0≤aU)=true:=dT' c35;clear c35
                  by_cases c36:aU<(bO.length:Int)
                  ·rw[if_pos c36]at H;have c36b0:decide (aU<(bO.length:Int))=true:=dT' c36;clear c36
                   by_cases c37:((rd_T90 bO aU).f0)=((rd_T90 aC aE).f0)
                   ·rw[if_pos c37]at H;have c37b0:(((rd_T90 bO aU).f0) == ((rd_T90 aC aE).f0))=true:=beq_iff_eq.mpr c37;have c37b1:(((rd_T90 bO aU).f0) != ((rd_T90 aC aE).f0))=false:=bne_eq_false_iff_eq.mpr c37;clear c37
                    by_cases c38:((rd_T90 bO aU).f1)=((rd_T90 aC aE).f1)
                    ·rw[if_pos c38]at H;have c38b0:(((rd_T90 bO aU).f1) == ((rd_T90 aC aE).f1))=true:=beq_iff_eq.mpr c38;have c38b1:(((rd_T90 bO aU).f1) != ((rd_T90 aC aE).f1))=false:=bne_eq_false_iff_eq.mpr c38;clear c38;obtain rfl:=Option.some.inj H;have cZ:0≤(aU:Int):=oD' qA;have dM:aU<(bO.length:Int):=oD' qA;obtain⟨gH,iQ,bJ,bM,bL⟩:=at_T90 iP.out aU cZ dM;obtain rfl:dT=gH:=(by injection iQ)
                     try replace bJ:=qC HB.out bJ
                     try replace bM:=qC HB.out bM
                     try replace bL:=qC HB.out bL
                     replace cZ:=eq_true cZ;replace dM:=eq_true dM;go_wp2_with (first|((with_reducible refine gate_dst (N:=6) rfl ?_);(try(refine gate_guard (by rfl) ?_;dsimp only));refine box_event ?hg (N:=6) ?hd (cs:=#[.int .i64 0,.int .i64 0,.bool false]) (t:=90) ?hr ?_;(case hd=>rfl);(case hg=>rfl);(case hr=>first|(go_simp;done)|(go_simp;rfl));intro aV hg kH hbox hb;have n0_:=A' (O' (g:=aH) (qB aD.out) hb);have n1_:=A' (O' (g:=aQ) (qB aJ.out) hb);have n2_:=A' (W' (qK2 HB.out aK.out bR.out) hb);have n3_:=A' (hbox);have n4_:=A' ((by rw[hg];exact(V' (qK2 HB.out aK.out bR.out)):w.heap.size≤aV));have n5_:=A' ((by rw[hg];exact(V' (qK2 HB.out aK.out bR.out)):w.heap.size≤aV));have n6_:=A' ((by rw[hg];exact Nat.ne_of_lt (bL' (g:=aH) (qB aD.out)):aH≠aV));have n7_:=A' ((by rw[hg];exact Nat.ne_of_gt (bL' (g:=aH) (qB aD.out)):aV≠aH));have n8_:=A' ((by rw[hg];exact Nat.ne_of_lt (bL' (g:=aQ) (qB aJ.out)):aQ≠aV));have n9_:=A' ((by rw[hg];exact Nat.ne_of_gt (bL' (g:=aQ) (qB aJ.out)):aV≠aQ));clear aD;clear aJ;clear HB;have aD:=n0_;have aJ:=n1_;have HB:=n2_;have bI:=n3_;have jJ:=n4_;have gG:=n5_;have aY:=n6_;have bY:=n7_;have bA:=n8_;have bX:=n9_;clear n0_ n1_ n2_ n3_ n4_ n5_ n6_ n7_ n8_ n9_;clear hb hbox hg;have nP:=bY.out;have oO:=aY.out;have oT:=bX.out;have oZ:=bA.out;have fE:kH.cell? ⟨aV,0,none⟩=some (.int .i64 0):=(N' bI.out 0).trans rfl;have eL:kH.cell? ⟨aV,1,none⟩=some (.int .i64 0):=(N' bI.out 1).trans rfl;have fZ:kH.cell? ⟨aV,2,none⟩=some (.bool false):=(N' bI.out 2).trans rfl;have eX:=Y' bI.out 0;have eN:=Y' bI.out 1;have eT:=Y' bI.out 2;have pE:=bP.out;have oW:=aT.out;have eP:kH.cell? ⟨aQ,0,none⟩=some (.int .i64 ((rd_T90 aC aE).f0)):=(N' aJ.out 0).trans rfl;have eM:kH.cell? ⟨aQ,1,none⟩=some (.int .i64 ((rd_T90 aC aE).f1)):=(N' aJ.out 1).trans rfl;have eK:kH.cell? ⟨aQ,2,none⟩=some (.bool ((rd_T90 aC aE).f2)):=(N' aJ.out 2).trans rfl;have fN:=Y' aJ.out 0;have eH:=Y' aJ.out 1;have eV:=Y' aJ.out 2));go_ret;exact⟨qE,qK3 HB.out aK.out bR.out gG.out⟩
                    ·rw[if_neg c38]at H;have c38b0:(((rd_T90 bO aU).f1) == ((rd_T90 aC aE).f1))=false:=beq_eq_false_iff_ne.mpr c38;have c38b1:(((rd_T90 bO aU).f1) != ((rd_T90 aC aE).f1))=true:=bne_iff_ne.mpr c38;have H':=A' H;clear H;have cZ:0≤(aU:Int):=oD' qA;have dM:aU<(bO.length:Int):=oD' qA;obtain⟨gH,iQ,bJ,bM,bL⟩:=at_T90 iP.out aU cZ dM;obtain rfl:dT=gH:=(by injection iQ)
                     try replace bJ:=qC HB.out bJ
                     try replace bM:=qC HB.out bM
                     try replace bL:=qC HB.out bL
                     replace cZ:=eq_true cZ;replace dM:=eq_true dM;go_wp2_with (first|((with_reducible refine gate_dst (N:=6) rfl ?_);(try(refine gate_guard (by rfl) ?_;dsimp only));refine box_event ?hg (N:=6) ?hd (cs:=#[.int .i64 0,.int .i64 0,.bool false]) (t:=90) ?hr ?_;(case hd=>rfl);(case hg=>rfl);(case hr=>first|(go_simp;done)|(go_simp;rfl));intro aV hg kF hbox hb;have n0_:=A' (O' (g:=aH) (qB aD.out) hb);have n1_:=A' (O' (g:=aQ) (qB aJ.out) hb);have n2_:=A' (W' (qK2 HB.out aK.out bR.out) hb);have n3_:=A' (hbox);have n4_:=A' ((by rw[hg];exact(V' (qK2 HB.out aK.out bR.out)):w.heap.size≤aV));have n5_:=A' ((by rw[hg];exact(V' (qK2 HB.out aK.out bR.out)):w.heap.size≤aV));have n6_:=A' ((by rw[hg];exact Nat.ne_of_lt (bL' (g:=aH) (qB aD.out)):aH≠aV));have n7_:=A' ((by rw[hg];exact Nat.ne_of_gt (bL' (g:=aH) (qB aD.out)):aV≠aH));have n8_:=A' ((by rw[hg];exact Nat.ne_of_lt (bL' (g:=aQ) (qB aJ.out)):aQ≠aV));have n9_:=A' ((by rw[hg];exact Nat.ne_of_gt (bL' (g:=aQ) (qB aJ.out)):aV≠aQ));clear aD;clear aJ;clear HB;have aD:=n0_;have aJ:=n1_;have HB:=n2_;have bI:=n3_;have jJ:=n4_;have gG:=n5_;have aY:=n6_;have bY:=n7_;have bA:=n8_;have bX:=n9_;clear n0_ n1_ n2_ n3_ n4_ n5_ n6_ n7_ n8_ n9_;clear hb hbox hg;have pB:=bY.out;have nL:=aY.out;have oK:=bX.out;have pA:=bA.out;have fF:kF.cell? ⟨aV,0,none⟩=some (.int .i64 0):=(N' bI.out 0).trans rfl;have fJ:kF.cell? ⟨aV,1,none⟩=some (.int .i64 0):=(N' bI.out 1).trans rfl;have fD:kF.cell? ⟨aV,2,none⟩=some (.bool false):=(N' bI.out 2).trans rfl;have fB:=Y' bI.out 0;have fA:=Y' bI.out 1;have eS:=Y' bI.out 2;have oD:=bP.out;have nX:=aT.out;have fX:kF.cell? ⟨aQ,0,none⟩=some (.int .i64 ((rd_T90 aC aE).f0)):=(N' aJ.out 0).trans rfl;have eW:kF.cell? ⟨aQ,1,none⟩=some (.int .i64 ((rd_T90 aC aE).f1)):=(N' aJ.out 1).trans rfl;have fS:kF.cell? ⟨aQ,2,none⟩=some (.bool ((rd_T90 aC aE).f2)):=(N' aJ.out 2).trans rfl;have fC:=Y' aJ.out 0;have fV:=Y' aJ.out 1;have fO:=Y' aJ.out 2))
                     go_roundg k4
                     case measure=>have:=fK.out;have:=fL.out;have:=iK.out;have:=kJ.out;omega
                     case rel=>exact⟨(wrap64 (aU+1)),qS,H',⟨by have:=fK.out;have:=fL.out;have:=iK.out;have:=kJ.out;omega⟩,⟨qG3 aD.out aY.out aY.out aY.out⟩,⟨qG3 aJ.out bA.out bA.out bA.out⟩,⟨qK3 HB.out aK.out bR.out gG.out⟩⟩
                   ·rw[if_neg c37]at H;have c37b0:(((rd_T90 bO aU).f0) == ((rd_T90 aC aE).f0))=false:=beq_eq_false_iff_ne.mpr c37;have c37b1:(((rd_T90 bO aU).f0) != ((rd_T90 aC aE).f0))=true:=bne_iff_ne.mpr c37;have H':=A' H;clear H;have cZ:0≤(aU:Int):=oD' qA;have dM:aU<(bO.length:Int):=oD' qA;obtain⟨gH,iQ,bJ,bM,bL⟩:=at_T90 iP.out aU cZ dM;obtain rfl:dT=gH:=(by injection iQ)
                    try replace bJ:=qC HB.out bJ
                    try replace bM:=qC HB.out bM
                    try replace bL:=qC HB.out bL
                    replace cZ:=eq_true cZ;replace dM:=eq_true dM;go_wp2_with (first|((with_reducible refine gate_dst (N:=6) rfl ?_);(try(refine gate_guard (by rfl) ?_;dsimp only));refine box_event ?hg (N:=6) ?hd (cs:=#[.int .i64 0,.int .i64 0,.bool false]) (t:=90) ?hr ?_;(case hd=>rfl);(case hg=>rfl);(case hr=>first|(go_simp;done)|(go_simp;rfl));intro aV hg kE hbox hb;have n0_:=A' (O' (g:=aH) (qB aD.out) hb);have n1_:=A' (O' (g:=aQ) (qB aJ.out) hb);have n2_:=A' (W' (qK2 HB.out aK.out bR.out) hb);have n3_:=A' (hbox);have n4_:=A' ((by rw[hg];exact(V' (qK2 HB.out aK.out bR.out)):w.heap.size≤aV));have n5_:=A' ((by rw[hg];exact(V' (qK2 HB.out aK.out bR.out)):w.heap.size≤aV));have n6_:=A' ((by rw[hg];exact Nat.ne_of_lt (bL' (g:=aH) (qB aD.out)):aH≠aV));have n7_:=A' ((by rw[hg];exact Nat.ne_of_gt (bL' (g:=aH) (qB aD.out)):aV≠aH));have n8_:=A' ((by rw[hg];exact Nat.ne_of_lt (bL' (g:=aQ) (qB aJ.out)):aQ≠aV));have n9_:=A' ((by rw[hg];exact Nat.ne_of_gt (bL' (g:=aQ) (qB aJ.out)):aV≠aQ));clear aD;clear aJ;clear HB;have aD:=n0_;have aJ:=n1_;have HB:=n2_;have bI:=n3_;have jJ:=n4_;have gG:=n5_;have aY:=n6_;have bY:=n7_;have bA:=n8_;have bX:=n9_;clear n0_ n1_ n2_ n3_ n4_ n5_ n6_ n7_ n8_ n9_;clear hb hbox hg;have oH:=bY.out;have oA:=aY.out;have pD:=bX.out;have oR:=bA.out;have eO:kE.cell? ⟨aV,0,none⟩=some (.int .i64 0):=(N' bI.out 0).trans rfl;have fU:kE.cell? ⟨aV,1,none⟩=some (.int .i64 0):=(N' bI.out 1).trans rfl;have fY:kE.cell? ⟨aV,2,none⟩=some (.bool false):=(N' bI.out 2).trans rfl;have fW:=Y' bI.out 0;have eI:=Y' bI.out 1;have fG:=Y' bI.out 2;have nO:=bP.out;have pF:=aT.out;have fR:kE.cell? ⟨aQ,0,none⟩=some (.int .i64 ((rd_T90 aC aE).f0)):=(N' aJ.out 0).trans rfl;have fM:kE.cell? ⟨aQ,1,none⟩=some (.int .i64 ((rd_T90 aC aE).f1)):=(N' aJ.out 1).trans rfl;have fH:kE.cell? ⟨aQ,2,none⟩=some (.bool ((rd_T90 aC aE).f2)):=(N' aJ.out 2).trans rfl;have fP:=Y' aJ.out 0;have fQ:=Y' aJ.out 1;have eQ:=Y' aJ.out 2))
                    go_roundg k4
                    case measure=>have:=fK.out;have:=fL.out;have:=iK.out;have:=kJ.out;omega
                    case rel=>exact⟨(wrap64 (aU+1)),qS,H',⟨by have:=fK.out;have:=fL.out;have:=iK.out;have:=kJ.out;omega⟩,⟨qG3 aD.out aY.out aY.out aY.out⟩,⟨qG3 aJ.out bA.out bA.out bA.out⟩,⟨qK3 HB.out aK.out bR.out gG.out⟩⟩
                  ·rw[if_neg c36]at H;exact absurd H (by simp)
                 ·rw[if_neg c35]at H;exact absurd H (by simp)
                ·rw[if_neg c34]at H;have c34b0:decide (aU<(bO.length:Int))=false:=dF' c34;clear c34;have H':=A' H;clear H;go_wp2
                 go_roundg k4
                 case measure=>have:=fK.out;have:=fL.out;have:=iK.out;have:=kJ.out;omega
                 case rel=>exact⟨(wrap64 (aE+1)),qS,H',⟨by have:=fK.out;have:=fL.out;have:=iK.out;have:=kJ.out;omega⟩,⟨qB aD.out⟩,⟨qK2 HB.out aK.out bR.out⟩⟩
             ·rw[if_neg c30]at H;exact absurd H (by simp)
            ·rw[if_neg c29]at H;exact absurd H (by simp)
        ·rw[if_neg c16]at H;exact absurd H (by simp)
       ·rw[if_neg c15]at H;exact absurd H (by simp)
      ·rw[if_neg c14]at H;have c14b0:decide (aE<(aC.length:Int))=false:=dF' c14;clear c14;have H':=A' H;clear H;have eR:wr.cell? ⟨aH,0,none⟩=some (.slice cG aC.length bT):=(N' aD.out 0).trans rfl;have fI:wr.cell? ⟨aH,1,none⟩=some (.slice cX aB.length bS):=(N' aD.out 1).trans rfl;have eZ:=Y' aD.out 0;have fT:=Y' aD.out 1;go_wp2
       go_loopg [71] k2 (fun kq pH w'=>∃(aA:Int),pH= .int .i64 aA∧Aside0 (impl_ValidFrame.l2 kq aB (aB.length:Int) aA aC aB=some r)∧Aside0 (kq≤k2)∧Aside0 (w'.heap[aH]? =some (.cells #[(.slice cG aC.length bT),(.slice cX aB.length bS)] 33 (0,0)))∧Aside0 (Below w.heap.size w w'))
       case atStart=>exact⟨(0),qS,H',⟨Nat.le_refl _⟩,⟨qB aD.out⟩,⟨qK1 HB.out aK.out⟩⟩
       case round=>
        clear H';try clear c1
        try clear p1
        try clear q1
        try clear hx1
        try clear c2
        try clear p2
        try clear c3
        try clear q3
        try clear c4
        try clear c4b0
        try clear c4b1
        try clear c5
        try clear c6
        try clear c6b0
        try clear c6b1
        try clear p6
        try clear c8
        try clear iZ
        try clear c14
        try clear c14b0
        try clear c15
        try clear c15b0
        try clear c16
        try clear c16b0
        try clear p16
        try clear q16
        try clear hx16
        try clear p17
        try clear q17
        try clear hx17
        try clear c19
        try clear jG
        try clear c24
        try clear c26
        try clear jL
        try clear c29
        try clear c29b0
        try clear c29b1
        try clear c30
        try clear c30b0
        try clear c30b1
        try clear c31
        try clear iN
        try clear c34
        try clear c34b0
        try clear c35
        try clear c35b0
        try clear c36
        try clear c36b0
        try clear c37
        try clear c37b0
        try clear c37b1
        try clear c38
        try clear c38b0
        try clear c38b1
        try clear c40
        try clear c41
        try clear c43
        try clear c46
        try clear c47
        try clear c49
        try clear c52
        try clear c53
        try clear c55
        try clear cH
        try clear cJ
        try clear dA
        try clear dF
        try clear dQ
        try clear dR
        try clear dE
        try clear dC
        try clear dI
        try clear dK
        try clear dD
        try clear eC
        try clear dU
        try clear fE
        try clear eL
        try clear fZ
        try clear eP
        try clear eM
        try clear eK
        try clear fF
        try clear fJ
        try clear fD
        try clear fX
        try clear eW
        try clear fS
        try clear eO
        try clear fU
        try clear fY
        try clear fR
        try clear fM
        try clear fH
        try clear eR
        try clear fI
        try clear cQ
        try clear cT
        try clear cR
        try clear cN
        try clear cV
        try clear cP
        try clear cK
        try clear cI
        try clear dG
        try clear dP
        try clear dB
        try clear cY
        try clear dJ
        try clear dH
        try clear dL
        try clear dO
        try clear dN
        try clear eA
        try clear dV
        try clear eX
        try clear eN
        try clear eT
        try clear fN
        try clear eH
        try clear eV
        try clear fB
        try clear fA
        try clear eS
        try clear fC
        try clear fV
        try clear fO
        try clear fW
        try clear eI
        try clear fG
        try clear fP
        try clear fQ
        try clear eQ
        try clear eZ
        try clear fT
        try clear cW
        try clear cM
        try clear cS
        try clear cL
        try clear cO
        try clear cU
        try clear cD
        try clear cB
        try clear cC
        try clear bJ
        try clear bM
        try clear bL
        try clear p1
        try clear p16
        try clear gF
        try clear cZ
        try clear p2
        try clear q1
        try clear q16
        try clear gA
        try clear dM
        try clear q3
        try clear iN
        obtain⟨aA,rfl,HA,iR,aD,HB⟩:=hrel
        cases gk with
        |zero=>exact absurd HA.out (by simp[impl_ValidFrame.l2])
        |succ k3=>
         have H:=HA.out;clear HA;simp only[impl_ValidFrame.l2]at H
         by_cases c58:aA<(aB.length:Int)
         ·rw[if_pos c58]at H;have c58b0:decide (aA<(aB.length:Int))=true:=dT' c58;clear c58
          by_cases c59:0≤aA
          ·rw[if_pos c59]at H;have c59b0:decide (0≤aA)=true:=dT' c59;clear c59
           by_cases c60:aA<(aB.length:Int)
           ·rw[if_pos c60]at H;have c60b0:decide (aA<(aB.length:Int))=true:=dT' c60;clear c60;have jZ:=A' H;clear H;have iO:0≤(aA:Int):=oD' qA;have iS:aA<(aB.length:Int):=oD' qA;obtain⟨cF,mO,dY,dZ,dX⟩:=at_T104 iV.out aA iO iS
            cases mO
            try replace dY:=qC HB.out dY
            try replace dZ:=qC HB.out dZ
            try replace dX:=qC HB.out dX
            replace iO:=eq_true iO;replace iS:=eq_true iS;go_upto_region 18 with (first|((with_reducible refine gate_dst (N:=8) rfl ?_);(try(refine gate_guard (by rfl) ?_;dsimp only));refine box_event ?hg (N:=8) ?hd (cs:=#[.int .i64 0,.int .i64 0,.bool false]) (t:=104) ?hr ?_;(case hd=>rfl);(case hg=>rfl);(case hr=>first|(go_simp;done)|(go_simp;rfl));intro aF hg eB hbox hb;have n0_:=A' (O' (g:=aH) (qB aD.out) hb);have n1_:=A' (W' (qK1 HB.out aK.out) hb);have n2_:=A' (hbox);have n3_:=A' ((by rw[hg];exact(V' (qK1 HB.out aK.out)):w.heap.size≤aF));have n4_:=A' ((by rw[hg];exact(V' (qK1 HB.out aK.out)):w.heap.size≤aF));have n5_:=A' ((by rw[hg];exact Nat.ne_of_lt (bL' (g:=aH) (qB aD.out)):aH≠aF));have n6_:=A' ((by rw[hg];exact Nat.ne_of_gt (bL' (g:=aH) (qB aD.out)):aF≠aH));clear aD;clear HB;have aD:=n0_;have HB:=n1_;have aG:=n2_;have dS:=n3_;have bH:=n4_;have aI:=n5_;have bB:=n6_;clear n0_ n1_ n2_ n3_ n4_ n5_ n6_;clear hb hbox hg;have oU:=bB.out;have pC:=aI.out;have hV:eB.cell? ⟨aF,0,none⟩=some (.int .i64 0):=(N' aG.out 0).trans rfl;have gZ:eB.cell? ⟨aF,1,none⟩=some (.int .i64 0):=(N' aG.out 1).trans rfl;have hU:eB.cell? ⟨aF,2,none⟩=some (.bool false):=(N' aG.out 2).trans rfl;have gV:=Y' aG.out 0;have hH:=Y' aG.out 1;have iA:=Y' aG.out 2))
            (try simp only[Act.put,List.setIfInBounds_toArray,List.set_cons_zero,List.set_cons_succ])
            go_cut [111] (fun mV wc=>∃(kq:Nat) (dW:Bool),mV= .bool dW∧Aside0 (impl_ValidFrame.j5 kq aA aB (aB.length:Int) aA dW aC aB ((rd_T104 aB aA).f0) ((rd_T104 aB aA).f1) ((rd_T104 aB aA).f2)=some r)∧Aside0 (kq≤k3)∧Aside0 (wc.heap[aH]? =some (.cells #[(.slice cG aC.length bT),(.slice (some cF) aB.length bS)] 33 (0,0)))∧Aside0 (wc.heap[aF]? =some (.cells #[.int .i64 ((rd_T104 aB aA).f0),.int .i64 ((rd_T104 aB aA).f1),.bool ((rd_T104 aB aA).f2)] 104 (0,0)))∧Aside0 (Below w.heap.size w wc))
            case first=>
             have H:=jZ.out;clear jZ
             by_cases c65:((rd_T104 aB aA).f0)<0
             ·rw[if_pos c65]at H;have c65b0:decide (((rd_T104 aB aA).f0)<0)=true:=dT' c65;clear c65;(first|rw[c65b0]|(simp only[i64_w,i32_w];rw[c65b0])|skip);have H':=A' H;clear H;have oS:=bB.out;have nM:=aI.out;have hT:eB.cell? ⟨aF,0,none⟩=some (.int .i64 0):=(N' aG.out 0).trans rfl;have hL:eB.cell? ⟨aF,1,none⟩=some (.int .i64 0):=(N' aG.out 1).trans rfl;have iF:eB.cell? ⟨aF,2,none⟩=some (.bool false):=(N' aG.out 2).trans rfl;have hC:=Y' aG.out 0;have gY:=Y' aG.out 1;have hA:=Y' aG.out 2;go_wp2
              go_meet
              case rel=>exact⟨_,(true),qS,H',⟨by have:=fK.out;have:=fL.out;have:=iR.out;first|omega|exact Nat.le_refl _⟩,⟨qG3 aD.out aI.out aI.out aI.out⟩,⟨by(with_reducible repeat(first|refine G' ?_ _|refine I' ?_|refine hA' ?_ _));refine blk_put (cs:=#[.int .i64 ((rd_T104 aB aA).f0),.int .i64 ((rd_T104 aB aA).f1),.bool false]) ?_ 2 _ rfl;(with_reducible repeat(first|refine G' ?_ _|refine I' ?_|refine hA' ?_ _));refine blk_put (cs:=#[.int .i64 ((rd_T104 aB aA).f0),.int .i64 0,.bool false]) ?_ 1 _ rfl;(with_reducible repeat(first|refine G' ?_ _|refine I' ?_|refine hA' ?_ _));refine blk_put (cs:=#[.int .i64 0,.int .i64 0,.bool false]) ?_ 0 _ rfl;(with_reducible repeat(first|refine G' ?_ _|refine I' ?_|refine hA' ?_ _));exact aG.out⟩,⟨qK2 HB.out aK.out bH.out⟩⟩
             ·rw[if_neg c65]at H;have c65b0:decide (((rd_T104 aB aA).f0)<0)=false:=dF' c65;clear c65;(first|rw[c65b0]|(simp only[i64_w,i32_w];rw[c65b0])|skip)
              by_cases c68:((rd_T104 aB aA).f0)≥((rd_T104 aB aA).f1)
              ·rw[if_pos c68]at H;have c68b0:decide (((rd_T104 aB aA).f1)≤((rd_T104 aB aA).f0))=true:=dT' c68;clear c68;have H':=A' H;clear H;have oX:=bB.out;have oE:=aI.out;have hR:eB.cell? ⟨aF,0,none⟩=some (.int .i64 0):=(N' aG.out 0).trans rfl;have iC:eB.cell? ⟨aF,1,none⟩=some (.int .i64 0):=(N' aG.out 1).trans rfl;have gQ:eB.cell? ⟨aF,2,none⟩=some (.bool false):=(N' aG.out 2).trans rfl;have hW:=Y' aG.out 0;have hQ:=Y' aG.out 1;have iD:=Y' aG.out 2;go_wp2
               go_meet
               case rel=>exact⟨_,(true),qS,H',⟨by have:=fK.out;have:=fL.out;have:=iR.out;first|omega|exact Nat.le_refl _⟩,⟨qG3 aD.out aI.out aI.out aI.out⟩,⟨by(with_reducible repeat(first|refine G' ?_ _|refine I' ?_|refine hA' ?_ _));refine blk_put (cs:=#[.int .i64 ((rd_T104 aB aA).f0),.int .i64 ((rd_T104 aB aA).f1),.bool false]) ?_ 2 _ rfl;(with_reducible repeat(first|refine G' ?_ _|refine I' ?_|refine hA' ?_ _));refine blk_put (cs:=#[.int .i64 ((rd_T104 aB aA).f0),.int .i64 0,.bool false]) ?_ 1 _ rfl;(with_reducible repeat(first|refine G' ?_ _|refine I' ?_|refine hA' ?_ _));refine blk_put (cs:=#[.int .i64 0,.int .i64 0,.bool false]) ?_ 0 _ rfl;(with_reducible repeat(first|refine G' ?_ _|refine I' ?_|refine hA' ?_ _));exact aG.out⟩,⟨qK2 HB.out aK.out bH.out⟩⟩
              ·rw[if_neg c68]at H;have c68b0:decide (((rd_T104 aB aA).f1)≤((rd_T104 aB aA).f0))=false:=dF' c68;clear c68
               by_cases c71:((rd_T104 aB aA).f1)≥(aC.length:Int)
               ·rw[if_pos c71]at H;have c71b0:decide ((aC.length:Int)≤((rd_T104 aB aA).f1))=true:=dT' c71;clear c71;have H':=A' H;clear H;have oY:=bB.out;have nJ:=aI.out;have gW:eB.cell? ⟨aF,0,none⟩=some (.int .i64 0):=(N' aG.out 0).trans rfl;have iB:eB.cell? ⟨aF,1,none⟩=some (.int .i64 0):=(N' aG.out 1).trans rfl;have gN:eB.cell? ⟨aF,2,none⟩=some (.bool false):=(N' aG.out 2).trans rfl;have iH:=Y' aG.out 0;have gK:=Y' aG.out 1;have hF:=Y' aG.out 2;have gJ:eB.cell? ⟨aH,0,none⟩=some (.slice cG aC.length bT):=(N' aD.out 0).trans rfl;have hS:eB.cell? ⟨aH,1,none⟩=some (.slice (some cF) aB.length bS):=(N' aD.out 1).trans rfl;have hP:=Y' aD.out 0;have hE:=Y' aD.out 1;go_wp2
                go_meet
                case rel=>exact⟨_,(true),qS,H',⟨by have:=fK.out;have:=fL.out;have:=iR.out;first|omega|exact Nat.le_refl _⟩,⟨qG3 aD.out aI.out aI.out aI.out⟩,⟨by(with_reducible repeat(first|refine G' ?_ _|refine I' ?_|refine hA' ?_ _));refine blk_put (cs:=#[.int .i64 ((rd_T104 aB aA).f0),.int .i64 ((rd_T104 aB aA).f1),.bool false]) ?_ 2 _ rfl;(with_reducible repeat(first|refine G' ?_ _|refine I' ?_|refine hA' ?_ _));refine blk_put (cs:=#[.int .i64 ((rd_T104 aB aA).f0),.int .i64 0,.bool false]) ?_ 1 _ rfl;(with_reducible repeat(first|refine G' ?_ _|refine I' ?_|refine hA' ?_ _));refine blk_put (cs:=#[.int .i64 0,.int .i64 0,.bool false]) ?_ 0 _ rfl;(with_reducible repeat(first|refine G' ?_ _|refine I' ?_|refine hA' ?_ _));exact aG.out⟩,⟨qK2 HB.out aK.out bH.out⟩⟩
               ·rw[if_neg c71]at H;have c71b0:decide ((aC.length:Int)≤((rd_T104 aB aA).f1))=false:=dF' c71;clear c71
                by_cases c75:0≤((rd_T104 aB aA).f0)
                ·rw[if_pos c75]at H;have c75b0:decide (0≤((rd_T104 aB aA).f0))=true:=dT' c75;clear c75
                 by_cases c76:((rd_T104 aB aA).f0)<(aC.length:Int)
                 ·rw[if_pos c76]at H;have c76b0:decide (((rd_T104 aB aA).f0)<(aC.length:Int))=true:=dT' c76;clear c76;obtain⟨lZ,iY⟩: ∃b_:Bool,b_=((rd_T90 aC ((rd_T104 aB aA).f0)).f2):=⟨_,rfl⟩
                  replace H:(if lZ=true then(if 0≤((rd_T104 aB aA).f1)then(if((rd_T104 aB aA).f1)<(aC.length:Int)then(impl_ValidFrame.j5 k3 aA aB (aB.length:Int) aA ((rd_T90 aC ((rd_T104 aB aA).f1)).f2) aC aB ((rd_T104 aB aA).f0) ((rd_T104 aB aA).f1) ((rd_T104 aB aA).f2))else(none))else(none))else(impl_ValidFrame.j5 k3 aA aB (aB.length:Int) aA false aC aB ((rd_T104 aB aA).f0) ((rd_T104 aB aA).f1) ((rd_T104 aB aA).f2)))=some r:=by rw[← iY]at H;exact H
                  have eF:=A' iY;clear iY
                  by_cases kI:lZ=true
                  ·subst kI;have H1:(if 0≤((rd_T104 aB aA).f1)then(if((rd_T104 aB aA).f1)<(aC.length:Int)then(impl_ValidFrame.j5 k3 aA aB (aB.length:Int) aA ((rd_T90 aC ((rd_T104 aB aA).f1)).f2) aC aB ((rd_T104 aB aA).f0) ((rd_T104 aB aA).f1) ((rd_T104 aB aA).f2))else(none))else(none))=some r:=by rw[if_pos rfl]at H;exact H
                   clear H;have H:=H1;clear H1
                   by_cases c79:0≤((rd_T104 aB aA).f1)
                   ·rw[if_pos c79]at H;have c79b0:decide (0≤((rd_T104 aB aA).f1))=true:=dT' c79;clear c79
                    by_cases c80:((rd_T104 aB aA).f1)<(aC.length:Int)
                    ·rw[if_pos c80]at H;have c80b0:decide (((rd_T104 aB aA).f1)<(aC.length:Int))=true:=dT' c80;clear c80;have H':=A' H;clear H;have nZ:=bB.out;have oJ:=aI.out;have hX:eB.cell? ⟨aF,0,none⟩=some (.int .i64 0):=(N' aG.out 0).trans rfl;have gS:eB.cell? ⟨aF,1,none⟩=some (.int .i64 0):=(N' aG.out 1).trans rfl;have iE:eB.cell? ⟨aF,2,none⟩=some (.bool false):=(N' aG.out 2).trans rfl;have gX:=Y' aG.out 0;have gP:=Y' aG.out 1;have hJ:=Y' aG.out 2;have gL:eB.cell? ⟨aH,0,none⟩=some (.slice cG aC.length bT):=(N' aD.out 0).trans rfl;have hI:eB.cell? ⟨aH,1,none⟩=some (.slice (some cF) aB.length bS):=(N' aD.out 1).trans rfl;have hK:=Y' aD.out 0;have hY:=Y' aD.out 1;have eJ:0≤(((rd_T104 aB aA).f0):Int):=oD' qA;have eU:((rd_T104 aB aA).f0)<(aC.length:Int):=oD' qA;obtain⟨cE,jX,aO,aS,aR⟩:=at_T90 eG.out ((rd_T104 aB aA).f0) eJ eU;(try rw[← eF.out]at aR);(try rw[← eF.out]at hw175_2)
                     cases jX
                     have aN:cE.block≠aF:=Nat.ne_of_lt (Nat.lt_of_lt_of_le (by have:=World.block_lt_of_cell? _ _ aO;first|rwa [add_block]at this|exact this) dS.out);have aM:cE.block≠aF:=Nat.ne_of_lt (Nat.lt_of_lt_of_le (by have:=World.block_lt_of_cell? _ _ aO;first|rwa [add_block]at this|exact this) dS.out);have aL:cE.block≠aF:=Nat.ne_of_lt (Nat.lt_of_lt_of_le (by have:=World.block_lt_of_cell? _ _ aO;first|rwa [add_block]at this|exact this) dS.out);try replace aO:=qC HB.out aO
                     try replace aS:=qC HB.out aS
                     try replace aR:=qC HB.out aR
                     replace aO:=(Z' (p:=⟨aF,0,none⟩) (by first|(rw[add_block];exact aN)|(show(Addr.add _ _).block≠_;rw[add_block];exact aN)|exact aN|(dsimp only;exact aN)) (.int .i64 ((rd_T104 aB aA).f0))).trans aO;replace aS:=(Z' (p:=⟨aF,0,none⟩) (by first|(rw[add_block];exact aN)|(show(Addr.add _ _).block≠_;rw[add_block];exact aN)|exact aN|(dsimp only;exact aN)) (.int .i64 ((rd_T104 aB aA).f0))).trans aS;replace aR:=(Z' (p:=⟨aF,0,none⟩) (by first|(rw[add_block];exact aN)|(show(Addr.add _ _).block≠_;rw[add_block];exact aN)|exact aN|(dsimp only;exact aN)) (.int .i64 ((rd_T104 aB aA).f0))).trans aR;replace aO:=(Z' (p:=⟨aF,1,none⟩) (by first|(rw[add_block];exact aM)|(show(Addr.add _ _).block≠_;rw[add_block];exact aM)|exact aM|(dsimp only;exact aM)) (.int .i64 ((rd_T104 aB aA).f1))).trans aO;replace aS:=(Z' (p:=⟨aF,1,none⟩) (by first|(rw[add_block];exact aM)|(show(Addr.add _ _).block≠_;rw[add_block];exact aM)|exact aM|(dsimp only;exact aM)) (.int .i64 ((rd_T104 aB aA).f1))).trans aS;replace aR:=(Z' (p:=⟨aF,1,none⟩) (by first|(rw[add_block];exact aM)|(show(Addr.add _ _).block≠_;rw[add_block];exact aM)|exact aM|(dsimp only;exact aM)) (.int .i64 ((rd_T104 aB aA).f1))).trans aR;replace aO:=(Z' (p:=⟨aF,2,none⟩) (by first|(rw[add_block];exact aL)|(show(Addr.add _ _).block≠_;rw[add_block];exact aL)|exact aL|(dsimp only;exact aL)) (.bool ((rd_T104 aB aA).f2))).trans aO;replace aS:=(Z' (p:=⟨aF,2,none⟩) (by first|(rw[add_block];exact aL)|(show(Addr.add _ _).block≠_;rw[add_block];exact aL)|exact aL|(dsimp only;exact aL)) (.bool ((rd_T104 aB aA).f2))).trans aS;replace aR:=(Z' (p:=⟨aF,2,none⟩) (by first|(rw[add_block];exact aL)|(show(Addr.add _ _).block≠_;rw[add_block];exact aL)|exact aL|(dsimp only;exact aL)) (.bool ((rd_T104 aB aA).f2))).trans aR;clear aN;clear aM;clear aL;replace eJ:=eq_true eJ;replace eU:=eq_true eU;have iM:0≤(((rd_T104 aB aA).f1):Int):=oD' qA;have iT:((rd_T104 aB aA).f1)<(aC.length:Int):=oD' qA;obtain⟨lR,nD,bE,bQ,bK⟩:=at_T90 eG.out ((rd_T104 aB aA).f1) iM iT;(try rw[← eF.out]at bK);(try rw[← eF.out]at hw176_2);obtain rfl:cE=lR:=(by injection nD)
                     have bC:cE.block≠aF:=Nat.ne_of_lt (Nat.lt_of_lt_of_le (by have:=World.block_lt_of_cell? _ _ bE;first|rwa [add_block]at this|exact this) dS.out);have bF:cE.block≠aF:=Nat.ne_of_lt (Nat.lt_of_lt_of_le (by have:=World.block_lt_of_cell? _ _ bE;first|rwa [add_block]at this|exact this) dS.out);have bD:cE.block≠aF:=Nat.ne_of_lt (Nat.lt_of_lt_of_le (by have:=World.block_lt_of_cell? _ _ bE;first|rwa [add_block]at this|exact this) dS.out);try replace bE:=qC HB.out bE
                     try replace bQ:=qC HB.out bQ
                     try replace bK:=qC HB.out bK
                     replace bE:=(Z' (p:=⟨aF,0,none⟩) (by first|(rw[add_block];exact bC)|(show(Addr.add _ _).block≠_;rw[add_block];exact bC)|exact bC|(dsimp only;exact bC)) (.int .i64 ((rd_T104 aB aA).f0))).trans bE;replace bQ:=(Z' (p:=⟨aF,0,none⟩) (by first|(rw[add_block];exact bC)|(show(Addr.add _ _).block≠_;rw[add_block];exact bC)|exact bC|(dsimp only;exact bC)) (.int .i64 ((rd_T104 aB aA).f0))).trans bQ;replace bK:=(Z' (p:=⟨aF,0,none⟩) (by first|(rw[add_block];exact bC)|(show(Addr.add _ _).block≠_;rw[add_block];exact bC)|exact bC|(dsimp only;exact bC)) (.int .i64 ((rd_T104 aB aA).f0))).trans bK;replace bE:=(Z' (p:=⟨aF,1,none⟩) (by first|(rw[add_block];exact bF)|(show(Addr.add _ _).block≠_;rw[add_block];exact bF)|exact bF|(dsimp only;exact bF)) (.int .i64 ((rd_T104 aB aA).f1))).trans bE;replace bQ:=(Z' (p:=⟨aF,1,none⟩) (by first|(rw[add_block];exact bF)|(show(Addr.add _ _).block≠_;rw[add_block];exact bF)|exact bF|(dsimp only;exact bF)) (.int .i64 ((rd_T104 aB aA).f1))).trans bQ;replace bK:=(Z' (p:=⟨aF,1,none⟩) (by first|(rw[add_block];exact bF)|(show(Addr.add _ _).block≠_;rw[add_block];exact bF)|exact bF|(dsimp only;exact bF)) (.int .i64 ((rd_T104 aB aA).f1))).trans bK;replace bE:=(Z' (p:=⟨aF,2,none⟩) (by first|(rw[add_block];exact bD)|(show(Addr.add _ _).block≠_;rw[add_block];exact bD)|exact bD|(dsimp only;exact bD)) (.bool ((rd_T104 aB aA).f2))).trans bE;replace bQ:=(Z' (p:=⟨aF,2,none⟩) (by first|(rw[add_block];exact bD)|(show(Addr.add _ _).block≠_;rw[add_block];exact bD)|exact bD|(dsimp only;exact bD)) (.bool ((rd_T104 aB aA).f2))).trans bQ;replace bK:=(Z' (p:=⟨aF,2,none⟩) (by first|(rw[add_block];exact bD)|(show(Addr.add _ _).block≠_;rw[add_block];exact bD)|exact bD|(dsimp only;exact bD)) (.bool ((rd_T104 aB aA).f2))).trans bK;clear bC;clear bF;clear bD;replace iM:=eq_true iM;replace iT:=eq_true iT;go_wp2
                     go_meet
                     case rel=>exact⟨_,((rd_T90 aC ((rd_T104 aB aA).f1)).f2),qS,H',⟨by have:=fK.out;have:=fL.out;have:=iR.out;first|omega|exact Nat.le_refl _⟩,⟨qG3 aD.out aI.out aI.out aI.out⟩,⟨by(with_reducible repeat(first|refine G' ?_ _|refine I' ?_|refine hA' ?_ _));refine blk_put (cs:=#[.int .i64 ((rd_T104 aB aA).f0),.int .i64 ((rd_T104 aB aA).f1),.bool false]) ?_ 2 _ rfl;(with_reducible repeat(first|refine G' ?_ _|refine I' ?_|refine hA' ?_ _));refine blk_put (cs:=#[.int .i64 ((rd_T104 aB aA).f0),.int .i64 0,.bool false]) ?_ 1 _ rfl;(with_reducible repeat(first|refine G' ?_ _|refine I' ?_|refine hA' ?_ _));refine blk_put (cs:=#[.int .i64 0,.int .i64 0,.bool false]) ?_ 0 _ rfl;(with_reducible repeat(first|refine G' ?_ _|refine I' ?_|refine hA' ?_ _));exact aG.out⟩,⟨qK2 HB.out aK.out bH.out⟩⟩
                    ·rw[if_neg c80]at H;exact absurd H (by simp)
                   ·rw[if_neg c79]at H;exact absurd H (by simp)
                  ·replace kI:=Bool.eq_false_iff.mpr kI;subst kI;have H1:(impl_ValidFrame.j5 k3 aA aB (aB.length:Int) aA false aC aB ((rd_T104 aB aA).f0) ((rd_T104 aB aA).f1) ((rd_T104 aB aA).f2))=some r:=by rw[if_neg (show¬(false=true) by decide)]at H;exact H
                   clear H;have H:=H1;clear H1;have H':=A' H;clear H;have oQ:=bB.out;have nU:=aI.out;have hD:eB.cell? ⟨aF,0,none⟩=some (.int .i64 0):=(N' aG.out 0).trans rfl;have gR:eB.cell? ⟨aF,1,none⟩=some (.int .i64 0):=(N' aG.out 1).trans rfl;have gO:eB.cell? ⟨aF,2,none⟩=some (.bool false):=(N' aG.out 2).trans rfl;have hZ:=Y' aG.out 0;have gM:=Y' aG.out 1;have gT:=Y' aG.out 2;have hB:eB.cell? ⟨aH,0,none⟩=some (.slice cG aC.length bT):=(N' aD.out 0).trans rfl;have hM:eB.cell? ⟨aH,1,none⟩=some (.slice (some cF) aB.length bS):=(N' aD.out 1).trans rfl;have hN:=Y' aD.out 0;have hG:=Y' aD.out 1;have eJ:0≤(((rd_T104 aB aA).f0):Int):=oD' qA;have eU:((rd_T104 aB aA).f0)<(aC.length:Int):=oD' qA;obtain⟨cE,jX,aO,aS,aR⟩:=at_T90 eG.out ((rd_T104 aB aA).f0) eJ eU;(try rw[← eF.out]at aR);(try rw[← eF.out]at hw175_2)
                   cases jX
                   have aN:cE.block≠aF:=Nat.ne_of_lt (Nat.lt_of_lt_of_le (by have:=World.block_lt_of_cell? _ _ aO;first|rwa [add_block]at this|exact this) dS.out);have aM:cE.block≠aF:=Nat.ne_of_lt (Nat.lt_of_lt_of_le (by have:=World.block_lt_of_cell? _ _ aO;first|rwa [add_block]at this|exact this) dS.out);have aL:cE.block≠aF:=Nat.ne_of_lt (Nat.lt_of_lt_of_le (by have:=World.block_lt_of_cell? _ _ aO;first|rwa [add_block]at this|exact this) dS.out);try replace aO:=qC HB.out aO
                   try replace aS:=qC HB.out aS
                   try replace aR:=qC HB.out aR
                   replace aO:=(Z' (p:=⟨aF,0,none⟩) (by first|(rw[add_block];exact aN)|(show(Addr.add _ _).block≠_;rw[add_block];exact aN)|exact aN|(dsimp only;exact aN)) (.int .i64 ((rd_T104 aB aA).f0))).trans aO;replace aS:=(Z' (p:=⟨aF,0,none⟩) (by first|(rw[add_block];exact aN)|(show(Addr.add _ _).block≠_;rw[add_block];exact aN)|exact aN|(dsimp only;exact aN)) (.int .i64 ((rd_T104 aB aA).f0))).trans aS;replace aR:=(Z' (p:=⟨aF,0,none⟩) (by first|(rw[add_block];exact aN)|(show(Addr.add _ _).block≠_;rw[add_block];exact aN)|exact aN|(dsimp only;exact aN)) (.int .i64 ((rd_T104 aB aA).f0))).trans aR;replace aO:=(Z' (p:=⟨aF,1,none⟩) (by first|(rw[add_block];exact aM)|(show(Addr.add _ _).block≠_;rw[add_block];exact aM)|exact aM|(dsimp only;exact aM)) (.int .i64 ((rd_T104 aB aA).f1))).trans aO;replace aS:=(Z' (p:=⟨aF,1,none⟩) (by first|(rw[add_block];exact aM)|(show(Addr.add _ _).block≠_;rw[add_block];exact aM)|exact aM|(dsimp only;exact aM)) (.int .i64 ((rd_T104 aB aA).f1))).trans aS;replace aR:=(Z' (p:=⟨aF,1,none⟩) (by first|(rw[add_block];exact aM)|(show(Addr.add _ _).block≠_;rw[add_block];exact aM)|exact aM|(dsimp only;exact aM)) (.int .i64 ((rd_T104 aB aA).f1))).trans aR;replace aO:=(Z' (p:=⟨aF,2,none⟩) (by first|(rw[add_block];exact aL)|(show(Addr.add _ _).block≠_;rw[add_block];exact aL)|exact aL|(dsimp only;exact aL)) (.bool ((rd_T104 aB aA).f2))).trans aO;replace aS:=(Z' (p:=⟨aF,2,none⟩) (by first|(rw[add_block];exact aL)|(show(Addr.add _ _).block≠_;rw[add_block];exact aL)|exact aL|(dsimp only;exact aL)) (.bool ((rd_T104 aB aA).f2))).trans aS;replace aR:=(Z' (p:=⟨aF,2,none⟩) (by first|(rw[add_block];exact aL)|(show(Addr.add _ _).block≠_;rw[add_block];exact aL)|exact aL|(dsimp only;exact aL)) (.bool ((rd_T104 aB aA).f2))).trans aR;clear aN;clear aM;clear aL;replace eJ:=eq_true eJ;replace eU:=eq_true eU;go_wp2
                   go_meet
                   case rel=>exact⟨_,(false),qS,H',⟨by have:=fK.out;have:=fL.out;have:=iR.out;first|omega|exact Nat.le_refl _⟩,⟨qG3 aD.out aI.out aI.out aI.out⟩,⟨by(with_reducible repeat(first|refine G' ?_ _|refine I' ?_|refine hA' ?_ _));refine blk_put (cs:=#[.int .i64 ((rd_T104 aB aA).f0),.int .i64 ((rd_T104 aB aA).f1),.bool false]) ?_ 2 _ rfl;(with_reducible repeat(first|refine G' ?_ _|refine I' ?_|refine hA' ?_ _));refine blk_put (cs:=#[.int .i64 ((rd_T104 aB aA).f0),.int .i64 0,.bool false]) ?_ 1 _ rfl;(with_reducible repeat(first|refine G' ?_ _|refine I' ?_|refine hA' ?_ _));refine blk_put (cs:=#[.int .i64 0,.int .i64 0,.bool false]) ?_ 0 _ rfl;(with_reducible repeat(first|refine G' ?_ _|refine I' ?_|refine hA' ?_ _));exact aG.out⟩,⟨qK2 HB.out aK.out bH.out⟩⟩
                 ·rw[if_neg c76]at H;exact absurd H (by simp)
                ·rw[if_neg c75]at H;exact absurd H (by simp)
            case rest=>
             clear jZ;try clear c1
             try clear p1
             try clear q1
             try clear hx1
             try clear c2
             try clear p2
             try clear c3
             try clear q3
             try clear c4
             try clear c4b0
             try clear c4b1
             try clear c5
             try clear c6
             try clear c6b0
             try clear c6b1
             try clear p6
             try clear c7
             try clear q7
             try clear c8
             try clear iZ
             try clear c14
             try clear c14b0
             try clear c15
             try clear c15b0
             try clear c16
             try clear c16b0
             try clear p16
             try clear q16
             try clear hx16
             try clear p17
             try clear q17
             try clear hx17
             try clear c19
             try clear jG
             try clear c24
             try clear c26
             try clear jL
             try clear c29
             try clear c29b0
             try clear c29b1
             try clear c30
             try clear c30b0
             try clear c30b1
             try clear c31
             try clear iN
             try clear c34
             try clear c34b0
             try clear c35
             try clear c35b0
             try clear c36
             try clear c36b0
             try clear c37
             try clear c37b0
             try clear c37b1
             try clear c38
             try clear c38b0
             try clear c38b1
             try clear c40
             try clear c41
             try clear c43
             try clear c46
             try clear c47
             try clear c49
             try clear c52
             try clear c53
             try clear c55
             try clear c58
             try clear c58b0
             try clear c59
             try clear c59b0
             try clear c60
             try clear c60b0
             try clear c63
             try clear p64
             try clear c65
             try clear c65b0
             try clear c66
             try clear c68
             try clear c68b0
             try clear c69
             try clear c71
             try clear c71b0
             try clear c72
             try clear c75
             try clear c75b0
             try clear c76
             try clear c76b0
             try clear q77
             try clear kI
             try clear c79
             try clear c79b0
             try clear c80
             try clear c80b0
             try clear c81
             try clear c84
             try clear cH
             try clear cJ
             try clear dA
             try clear dF
             try clear dQ
             try clear dR
             try clear dE
             try clear dC
             try clear dI
             try clear dK
             try clear dD
             try clear eC
             try clear dU
             try clear fE
             try clear eL
             try clear fZ
             try clear eP
             try clear eM
             try clear eK
             try clear fF
             try clear fJ
             try clear fD
             try clear fX
             try clear eW
             try clear fS
             try clear eO
             try clear fU
             try clear fY
             try clear fR
             try clear fM
             try clear fH
             try clear eR
             try clear fI
             try clear cQ
             try clear cT
             try clear hV
             try clear gZ
             try clear hU
             try clear hT
             try clear hL
             try clear iF
             try clear hR
             try clear iC
             try clear gQ
             try clear gW
             try clear iB
             try clear gN
             try clear gJ
             try clear hS
             try clear cR
             try clear cN
             try clear hX
             try clear gS
             try clear iE
             try clear gL
             try clear hI
             try clear hD
             try clear gR
             try clear gO
             try clear hB
             try clear hM
             try clear cV
             try clear cP
             try clear cK
             try clear cI
             try clear dG
             try clear dP
             try clear dB
             try clear cY
             try clear dJ
             try clear dH
             try clear dL
             try clear dO
             try clear dN
             try clear eA
             try clear dV
             try clear eX
             try clear eN
             try clear eT
             try clear fN
             try clear eH
             try clear eV
             try clear fB
             try clear fA
             try clear eS
             try clear fC
             try clear fV
             try clear fO
             try clear fW
             try clear eI
             try clear fG
             try clear fP
             try clear fQ
             try clear eQ
             try clear eZ
             try clear fT
             try clear cW
             try clear cM
             try clear gV
             try clear hH
             try clear iA
             try clear hC
             try clear gY
             try clear hA
             try clear hW
             try clear hQ
             try clear iD
             try clear iH
             try clear gK
             try clear hF
             try clear hP
             try clear hE
             try clear cS
             try clear cL
             try clear gX
             try clear gP
             try clear hJ
             try clear hK
             try clear hY
             try clear hZ
             try clear gM
             try clear gT
             try clear hN
             try clear hG
             try clear cO
             try clear cU
             try clear cD
             try clear cB
             try clear cC
             try clear bJ
             try clear bM
             try clear bL
             try clear dY
             try clear dZ
             try clear dX
             try clear aO
             try clear aS
             try clear aR
             try clear bE
             try clear bQ
             try clear bK
             try clear p1
             try clear p16
             try clear gF
             try clear p17
             try clear cZ
             try clear iO
             try clear eJ
             try clear iM
             try clear p2
             try clear p6
             try clear q1
             try clear q16
             try clear gA
             try clear q17
             try clear dM
             try clear iS
             try clear eU
             try clear iT
             try clear q3
             try clear iN
             obtain⟨kq,dW,rfl,HA,iL,aD,aG,HB⟩:=hcut
             cases kq with
             |zero=>exact absurd HA.out (by simp[impl_ValidFrame.j5])
             |succ jH=>
              have H:=HA.out;clear HA;simp only[impl_ValidFrame.j5]at H
              by_cases lP:dW=true
              ·subst lP;have H1:(some false)=some r:=by rw[if_pos rfl]at H;exact H
               clear H;have H:=H1;clear H1;obtain rfl:=Option.some.inj H;go_wp2;go_ret;exact⟨qE,qK2 HB.out aK.out bH.out⟩
              ·replace lP:=Bool.eq_false_iff.mpr lP;subst lP;have H1:(if 0≤aA then(if aA≤(aB.length:Int)then((some (aB.take (aA:Int).toNat:List (S104))).bind fun bN=>(impl_ValidFrame.l3 jH aB (aB.length:Int) aA bN (bN.length:Int) 0 aC aB ((rd_T104 aB aA).f0) ((rd_T104 aB aA).f1) ((rd_T104 aB aA).f2)))else(none))else(none))=some r:=by rw[if_neg (show¬(false=true) by decide)]at H;exact H
               clear H;have H:=H1;clear H1
               by_cases c88:0≤aA
               ·rw[if_pos c88]at H;have c88b0:=eq_true c88;have c88b1:decide (0≤aA)=true:=dT' c88;clear c88
                by_cases c89:aA≤(aB.length:Int)
                ·rw[if_pos c89]at H;have c89b0:=eq_true c89;have c89b1:decide (aA≤(aB.length:Int))=true:=dT' c89;clear c89;obtain⟨bN,gB⟩: ∃y_:List (S104),y_=(aB.take (aA:Int).toNat):=⟨_,rfl⟩
                 replace H:(impl_ValidFrame.l3 jH aB (aB.length:Int) aA bN (bN.length:Int) 0 aC aB ((rd_T104 aB aA).f0) ((rd_T104 aB aA).f1) ((rd_T104 aB aA).f2))=some r:=by first|(rw[gB];with_reducible exact H)|(have H2_:=(Option.bind_some _ _).symm.trans H;rw[gB];with_reducible exact H2_)|(have H2_:=(Option.bind_some _ _).symm.trans H;with_reducible exact H2_)|with_reducible exact H|(rw[gB];exact H)|exact H
                 have jR:=A' gB;clear gB;have H':=A' H;clear H;have oV:=aI.out;have nW:=bB.out;have jC:wc.cell? ⟨aH,0,none⟩=some (.slice cG aC.length bT):=(N' aD.out 0).trans rfl;have jD:wc.cell? ⟨aH,1,none⟩=some (.slice (some cF) aB.length bS):=(N' aD.out 1).trans rfl;have jF:=Y' aD.out 0;have jE:=Y' aD.out 1;have kZ:(aA:Int)≤((aB.length:Int):Int):=oD' qA;obtain⟨i092,jO,_,mJ,_⟩:=info_parts info104;have iG:aB.length≤bS:=jU.out;have kP:Kd.C k104 _ (some cF) aB.length aB:=iV.out;have jW:=cut_to (P:=Try.prog) 31 104 .i64 Try.underlying31 jO (some cF) aB.length bS aA (oD' qA) kZ iG;have kB:=Kd.C_take (m:=(aA:Int).toNat) kP (by omega);have kC:bN.length=(aA:Int).toNat:=(by rw[jR.out,List.length_take];omega)
                 rw[← jR.out]at kB;rw[← kC]at jW;have iU:=A' kB;have oG:=A' (show bN.length≤bS from by omega);clear kB kP iG jO mJ;have pJ:=A' kC;clear kC;replace kZ:=eq_true kZ;go_wp2
                 go_loopg [117] jH (fun kq nG w'=>∃(aP:Int),nG= .int .i64 aP∧Aside0 (impl_ValidFrame.l3 kq aB (aB.length:Int) aA bN (bN.length:Int) aP aC aB ((rd_T104 aB aA).f0) ((rd_T104 aB aA).f1) ((rd_T104 aB aA).f2)=some r)∧Aside0 (kq≤jH)∧Aside0 (w'.heap[aH]? =some (.cells #[(.slice cG aC.length bT),(.slice (some cF) aB.length bS)] 33 (0,0)))∧Aside0 (w'.heap[aF]? =some (.cells #[.int .i64 ((rd_T104 aB aA).f0),.int .i64 ((rd_T104 aB aA).f1),.bool ((rd_T104 aB aA).f2)] 104 (0,0)))∧Aside0 (Below w.heap.size w w'))
                 case atStart=>exact⟨(0),qS,H',⟨Nat.le_refl _⟩,⟨qB aD.out⟩,⟨qB aG.out⟩,⟨qK2 HB.out aK.out bH.out⟩⟩
                 case round=>
                  clear H';try clear c1
                  try clear p1
                  try clear q1
                  try clear hx1
                  try clear c2
                  try clear p2
                  try clear c3
                  try clear q3
                  try clear c4
                  try clear c4b0
                  try clear c4b1
                  try clear c5
                  try clear c6
                  try clear c6b0
                  try clear c6b1
                  try clear p6
                  try clear c7
                  try clear q7
                  try clear c8
                  try clear c9
                  try clear q9
                  try clear iZ
                  try clear c14
                  try clear c14b0
                  try clear c15
                  try clear c15b0
                  try clear c16
                  try clear c16b0
                  try clear p16
                  try clear q16
                  try clear hx16
                  try clear p17
                  try clear q17
                  try clear hx17
                  try clear c19
                  try clear jG
                  try clear c24
                  try clear c26
                  try clear jL
                  try clear c29
                  try clear c29b0
                  try clear c29b1
                  try clear c30
                  try clear c30b0
                  try clear c30b1
                  try clear c31
                  try clear iN
                  try clear c34
                  try clear c34b0
                  try clear c35
                  try clear c35b0
                  try clear c36
                  try clear c36b0
                  try clear c37
                  try clear c37b0
                  try clear c37b1
                  try clear c38
                  try clear c38b0
                  try clear c38b1
                  try clear c40
                  try clear c41
                  try clear c43
                  try clear c46
                  try clear c47
                  try clear c49
                  try clear c52
                  try clear c53
                  try clear c55
                  try clear c58
                  try clear c58b0
                  try clear c59
                  try clear c59b0
                  try clear c60
                  try clear c60b0
                  try clear c63
                  try clear p64
                  try clear c65
                  try clear c65b0
                  try clear c66
                  try clear c68
                  try clear c68b0
                  try clear c69
                  try clear c71
                  try clear c71b0
                  try clear c72
                  try clear c75
                  try clear c75b0
                  try clear c76
                  try clear c76b0
                  try clear q77
                  try clear kI
                  try clear c79
                  try clear c79b0
                  try clear c80
                  try clear c80b0
                  try clear c81
                  try clear c84
                  try clear lP
                  try clear c88
                  try clear c88b0
                  try clear c88b1
                  try clear c89
                  try clear c89b0
                  try clear c89b1
                  try clear c90
                  try clear kZ
                  try clear cH
                  try clear cJ
                  try clear dA
                  try clear dF
                  try clear dQ
                  try clear dR
                  try clear dE
                  try clear dC
                  try clear dI
                  try clear dK
                  try clear dD
                  try clear eC
                  try clear dU
                  try clear fE
                  try clear eL
                  try clear fZ
                  try clear eP
                  try clear eM
                  try clear eK
                  try clear fF
                  try clear fJ
                  try clear fD
                  try clear fX
                  try clear eW
                  try clear fS
                  try clear eO
                  try clear fU
                  try clear fY
                  try clear fR
                  try clear fM
                  try clear fH
                  try clear eR
                  try clear fI
                  try clear cQ
                  try clear cT
                  try clear hV
                  try clear gZ
                  try clear hU
                  try clear hT
                  try clear hL
                  try clear iF
                  try clear hR
                  try clear iC
                  try clear gQ
                  try clear gW
                  try clear iB
                  try clear gN
                  try clear gJ
                  try clear hS
                  try clear cR
                  try clear cN
                  try clear hX
                  try clear gS
                  try clear iE
                  try clear gL
                  try clear hI
                  try clear hD
                  try clear gR
                  try clear gO
                  try clear hB
                  try clear hM
                  try clear jC
                  try clear jD
                  try clear cV
                  try clear cP
                  try clear cK
                  try clear cI
                  try clear dG
                  try clear dP
                  try clear dB
                  try clear cY
                  try clear dJ
                  try clear dH
                  try clear dL
                  try clear dO
                  try clear dN
                  try clear eA
                  try clear dV
                  try clear eX
                  try clear eN
                  try clear eT
                  try clear fN
                  try clear eH
                  try clear eV
                  try clear fB
                  try clear fA
                  try clear eS
                  try clear fC
                  try clear fV
                  try clear fO
                  try clear fW
                  try clear eI
                  try clear fG
                  try clear fP
                  try clear fQ
                  try clear eQ
                  try clear eZ
                  try clear fT
                  try clear cW
                  try clear cM
                  try clear gV
                  try clear hH
                  try clear iA
                  try clear hC
                  try clear gY
                  try clear hA
                  try clear hW
                  try clear hQ
                  try clear iD
                  try clear iH
                  try clear gK
                  try clear hF
                  try clear hP
                  try clear hE
                  try clear cS
                  try clear cL
                  try clear gX
                  try clear gP
                  try clear hJ
                  try clear hK
                  try clear hY
                  try clear hZ
                  try clear gM
                  try clear gT
                  try clear hN
                  try clear hG
                  try clear jF
                  try clear jE
                  try clear cO
                  try clear cU
                  try clear cD
                  try clear cB
                  try clear cC
                  try clear bJ
                  try clear bM
                  try clear bL
                  try clear dY
                  try clear dZ
                  try clear dX
                  try clear aO
                  try clear aS
                  try clear aR
                  try clear bE
                  try clear bQ
                  try clear bK
                  try clear p1
                  try clear p16
                  try clear gF
                  try clear p17
                  try clear cZ
                  try clear iO
                  try clear eJ
                  try clear iM
                  try clear p2
                  try clear p6
                  try clear p64
                  try clear q1
                  try clear q16
                  try clear gA
                  try clear q17
                  try clear dM
                  try clear iS
                  try clear eU
                  try clear iT
                  try clear q3
                  try clear iN
                  try clear q7
                  try clear q77
                  try clear kZ
                  obtain⟨aP,rfl,HA,kG,aD,aG,HB⟩:=hrel
                  cases gk with
                  |zero=>exact absurd HA.out (by simp[impl_ValidFrame.l3])
                  |succ k5=>
                   have H:=HA.out;clear HA;simp only[impl_ValidFrame.l3]at H
                   by_cases c93:aP<(bN.length:Int)
                   ·rw[if_pos c93]at H;have c93b0:decide (aP<(bN.length:Int))=true:=dT' c93;clear c93
                    by_cases c94:0≤aP
                    ·rw[if_pos c94]at H;have c94b0:decide (0≤aP)=true:=dT' c94;clear c94
                     by_cases c95:aP<(bN.length:Int)
                     ·rw[if_pos c95]at H;have c95b0:decide (aP<(bN.length:Int))=true:=dT' c95;clear c95
                      by_cases c96:((rd_T104 bN aP).f0)=((rd_T104 aB aA).f0)
                      ·rw[if_pos c96]at H;have c96b0:(((rd_T104 bN aP).f0) == ((rd_T104 aB aA).f0))=true:=beq_iff_eq.mpr c96;have c96b1:(((rd_T104 bN aP).f0) != ((rd_T104 aB aA).f0))=false:=bne_eq_false_iff_eq.mpr c96;clear c96
                       by_cases c97:((rd_T104 bN aP).f1)=((rd_T104 aB aA).f1)
                       ·rw[if_pos c97]at H;have c97b0:(((rd_T104 bN aP).f1) == ((rd_T104 aB aA).f1))=true:=beq_iff_eq.mpr c97;have c97b1:(((rd_T104 bN aP).f1) != ((rd_T104 aB aA).f1))=false:=bne_eq_false_iff_eq.mpr c97;clear c97;obtain rfl:=Option.some.inj H;have eE:0≤(aP:Int):=oD' qA;have eD:aP<(bN.length:Int):=oD' qA;obtain⟨gC,iW,bW,bU,bV⟩:=at_T104 iU.out aP eE eD;obtain rfl:cF=gC:=(by injection iW)
                        try replace bW:=qC HB.out bW
                        try replace bU:=qC HB.out bU
                        try replace bV:=qC HB.out bV
                        replace eE:=eq_true eE;replace eD:=eq_true eD;go_wp2_with (first|((with_reducible refine gate_dst (N:=10) rfl ?_);(try(refine gate_guard (by rfl) ?_;dsimp only));refine box_event ?hg (N:=10) ?hd (cs:=#[.int .i64 0,.int .i64 0,.bool false]) (t:=104) ?hr ?_;(case hd=>rfl);(case hg=>rfl);(case hr=>first|(go_simp;done)|(go_simp;rfl));intro aW hg kK hbox hb;have n0_:=A' (O' (g:=aH) (qB aD.out) hb);have n1_:=A' (O' (g:=aF) (qB aG.out) hb);have n2_:=A' (W' (qK2 HB.out aK.out bH.out) hb);have n3_:=A' (hbox);have n4_:=A' ((by rw[hg];exact(V' (qK2 HB.out aK.out bH.out)):w.heap.size≤aW));have n5_:=A' ((by rw[hg];exact(V' (qK2 HB.out aK.out bH.out)):w.heap.size≤aW));have n6_:=A' ((by rw[hg];exact Nat.ne_of_lt (bL' (g:=aH) (qB aD.out)):aH≠aW));have n7_:=A' ((by rw[hg];exact Nat.ne_of_gt (bL' (g:=aH) (qB aD.out)):aW≠aH));have n8_:=A' ((by rw[hg];exact Nat.ne_of_lt (bL' (g:=aF) (qB aG.out)):aF≠aW));have n9_:=A' ((by rw[hg];exact Nat.ne_of_gt (bL' (g:=aF) (qB aG.out)):aW≠aF));clear aD;clear aG;clear HB;have aD:=n0_;have aG:=n1_;have HB:=n2_;have bG:=n3_;have jN:=n4_;have gD:=n5_;have aX:=n6_;have cA:=n7_;have aZ:=n8_;have bZ:=n9_;clear n0_ n1_ n2_ n3_ n4_ n5_ n6_ n7_ n8_ n9_;clear hb hbox hg;have oF:=cA.out;have oI:=aX.out;have mU:=bZ.out;have mY:=aZ.out;have kT:kK.cell? ⟨aW,0,none⟩=some (.int .i64 0):=(N' bG.out 0).trans rfl;have lS:kK.cell? ⟨aW,1,none⟩=some (.int .i64 0):=(N' bG.out 1).trans rfl;have mC:kK.cell? ⟨aW,2,none⟩=some (.bool false):=(N' bG.out 2).trans rfl;have kS:=Y' bG.out 0;have lF:=Y' bG.out 1;have lB:=Y' bG.out 2;have mW:=bB.out;have mR:=aI.out;have lE:kK.cell? ⟨aF,0,none⟩=some (.int .i64 ((rd_T104 aB aA).f0)):=(N' aG.out 0).trans rfl;have kN:kK.cell? ⟨aF,1,none⟩=some (.int .i64 ((rd_T104 aB aA).f1)):=(N' aG.out 1).trans rfl;have mF:kK.cell? ⟨aF,2,none⟩=some (.bool ((rd_T104 aB aA).f2)):=(N' aG.out 2).trans rfl;have kV:=Y' aG.out 0;have lG:=Y' aG.out 1;have lI:=Y' aG.out 2));go_ret;exact⟨qE,qK3 HB.out aK.out bH.out gD.out⟩
                       ·rw[if_neg c97]at H;have c97b0:(((rd_T104 bN aP).f1) == ((rd_T104 aB aA).f1))=false:=beq_eq_false_iff_ne.mpr c97;have c97b1:(((rd_T104 bN aP).f1) != ((rd_T104 aB aA).f1))=true:=bne_iff_ne.mpr c97;have H':=A' H;clear H;have eE:0≤(aP:Int):=oD' qA;have eD:aP<(bN.length:Int):=oD' qA;obtain⟨gC,iW,bW,bU,bV⟩:=at_T104 iU.out aP eE eD;obtain rfl:cF=gC:=(by injection iW)
                        try replace bW:=qC HB.out bW
                        try replace bU:=qC HB.out bU
                        try replace bV:=qC HB.out bV
                        replace eE:=eq_true eE;replace eD:=eq_true eD;go_wp2_with (first|((with_reducible refine gate_dst (N:=10) rfl ?_);(try(refine gate_guard (by rfl) ?_;dsimp only));refine box_event ?hg (N:=10) ?hd (cs:=#[.int .i64 0,.int .i64 0,.bool false]) (t:=104) ?hr ?_;(case hd=>rfl);(case hg=>rfl);(case hr=>first|(go_simp;done)|(go_simp;rfl));intro aW hg iJ hbox hb;have n0_:=A' (O' (g:=aH) (qB aD.out) hb);have n1_:=A' (O' (g:=aF) (qB aG.out) hb);have n2_:=A' (W' (qK2 HB.out aK.out bH.out) hb);have n3_:=A' (hbox);have n4_:=A' ((by rw[hg];exact(V' (qK2 HB.out aK.out bH.out)):w.heap.size≤aW));have n5_:=A' ((by rw[hg];exact(V' (qK2 HB.out aK.out bH.out)):w.heap.size≤aW));have n6_:=A' ((by rw[hg];exact Nat.ne_of_lt (bL' (g:=aH) (qB aD.out)):aH≠aW));have n7_:=A' ((by rw[hg];exact Nat.ne_of_gt (bL' (g:=aH) (qB aD.out)):aW≠aH));have n8_:=A' ((by rw[hg];exact Nat.ne_of_lt (bL' (g:=aF) (qB aG.out)):aF≠aW));have n9_:=A' ((by rw[hg];exact Nat.ne_of_gt (bL' (g:=aF) (qB aG.out)):aW≠aF));clear aD;clear aG;clear HB;have aD:=n0_;have aG:=n1_;have HB:=n2_;have bG:=n3_;have jN:=n4_;have gD:=n5_;have aX:=n6_;have cA:=n7_;have aZ:=n8_;have bZ:=n9_;clear n0_ n1_ n2_ n3_ n4_ n5_ n6_ n7_ n8_ n9_;clear hb hbox hg;have nF:=cA.out;have nI:=aX.out;have nE:=bZ.out;have mZ:=aZ.out;have lC:iJ.cell? ⟨aW,0,none⟩=some (.int .i64 0):=(N' bG.out 0).trans rfl;have kX:iJ.cell? ⟨aW,1,none⟩=some (.int .i64 0):=(N' bG.out 1).trans rfl;have lL:iJ.cell? ⟨aW,2,none⟩=some (.bool false):=(N' bG.out 2).trans rfl;have mH:=Y' bG.out 0;have mD:=Y' bG.out 1;have mI:=Y' bG.out 2;have mL:=bB.out;have nB:=aI.out;have lD:iJ.cell? ⟨aF,0,none⟩=some (.int .i64 ((rd_T104 aB aA).f0)):=(N' aG.out 0).trans rfl;have mG:iJ.cell? ⟨aF,1,none⟩=some (.int .i64 ((rd_T104 aB aA).f1)):=(N' aG.out 1).trans rfl;have lV:iJ.cell? ⟨aF,2,none⟩=some (.bool ((rd_T104 aB aA).f2)):=(N' aG.out 2).trans rfl;have lY:=Y' aG.out 0;have lO:=Y' aG.out 1;have lQ:=Y' aG.out 2))
                        go_roundg k5
                        case measure=>have:=fK.out;have:=fL.out;have:=iR.out;have:=iL.out;have:=kG.out;omega
                        case rel=>exact⟨(wrap64 (aP+1)),qS,H',⟨by have:=fK.out;have:=fL.out;have:=iR.out;have:=iL.out;have:=kG.out;omega⟩,⟨qG3 aD.out aX.out aX.out aX.out⟩,⟨qG3 aG.out aZ.out aZ.out aZ.out⟩,⟨qK3 HB.out aK.out bH.out gD.out⟩⟩
                      ·rw[if_neg c96]at H;have c96b0:(((rd_T104 bN aP).f0) == ((rd_T104 aB aA).f0))=false:=beq_eq_false_iff_ne.mpr c96;have c96b1:(((rd_T104 bN aP).f0) != ((rd_T104 aB aA).f0))=true:=bne_iff_ne.mpr c96;have H':=A' H;clear H;have eE:0≤(aP:Int):=oD' qA;have eD:aP<(bN.length:Int):=oD' qA;obtain⟨gC,iW,bW,bU,bV⟩:=at_T104 iU.out aP eE eD;obtain rfl:cF=gC:=(by injection iW)
                       try replace bW:=qC HB.out bW
                       try replace bU:=qC HB.out bU
                       try replace bV:=qC HB.out bV
                       replace eE:=eq_true eE;replace eD:=eq_true eD;go_wp2_with (first|((with_reducible refine gate_dst (N:=10) rfl ?_);(try(refine gate_guard (by rfl) ?_;dsimp only));refine box_event ?hg (N:=10) ?hd (cs:=#[.int .i64 0,.int .i64 0,.bool false]) (t:=104) ?hr ?_;(case hd=>rfl);(case hg=>rfl);(case hr=>first|(go_simp;done)|(go_simp;rfl));intro aW hg iI hbox hb;have n0_:=A' (O' (g:=aH) (qB aD.out) hb);have n1_:=A' (O' (g:=aF) (qB aG.out) hb);have n2_:=A' (W' (qK2 HB.out aK.out bH.out) hb);have n3_:=A' (hbox);have n4_:=A' ((by rw[hg];exact(V' (qK2 HB.out aK.out bH.out)):w.heap.size≤aW));have n5_:=A' ((by rw[hg];exact(V' (qK2 HB.out aK.out bH.out)):w.heap.size≤aW));have n6_:=A' ((by rw[hg];exact Nat.ne_of_lt (bL' (g:=aH) (qB aD.out)):aH≠aW));have n7_:=A' ((by rw[hg];exact Nat.ne_of_gt (bL' (g:=aH) (qB aD.out)):aW≠aH));have n8_:=A' ((by rw[hg];exact Nat.ne_of_lt (bL' (g:=aF) (qB aG.out)):aF≠aW));have n9_:=A' ((by rw[hg];exact Nat.ne_of_gt (bL' (g:=aF) (qB aG.out)):aW≠aF));clear aD;clear aG;clear HB;have aD:=n0_;have aG:=n1_;have HB:=n2_;have bG:=n3_;have jN:=n4_;have gD:=n5_;have aX:=n6_;have cA:=n7_;have aZ:=n8_;have bZ:=n9_;clear n0_ n1_ n2_ n3_ n4_ n5_ n6_ n7_ n8_ n9_;clear hb hbox hg;have mQ:=cA.out;have mX:=aX.out;have mS:=bZ.out;have mN:=aZ.out;have kQ:iI.cell? ⟨aW,0,none⟩=some (.int .i64 0):=(N' bG.out 0).trans rfl;have lW:iI.cell? ⟨aW,1,none⟩=some (.int .i64 0):=(N' bG.out 1).trans rfl;have kR:iI.cell? ⟨aW,2,none⟩=some (.bool false):=(N' bG.out 2).trans rfl;have lK:=Y' bG.out 0;have lJ:=Y' bG.out 1;have kM:=Y' bG.out 2;have nH:=bB.out;have mM:=aI.out;have mK:iI.cell? ⟨aF,0,none⟩=some (.int .i64 ((rd_T104 aB aA).f0)):=(N' aG.out 0).trans rfl;have lX:iI.cell? ⟨aF,1,none⟩=some (.int .i64 ((rd_T104 aB aA).f1)):=(N' aG.out 1).trans rfl;have lA:iI.cell? ⟨aF,2,none⟩=some (.bool ((rd_T104 aB aA).f2)):=(N' aG.out 2).trans rfl;have lN:=Y' aG.out 0;have kU:=Y' aG.out 1;have lU:=Y' aG.out 2))
                       go_roundg k5
                       case measure=>have:=fK.out;have:=fL.out;have:=iR.out;have:=iL.out;have:=kG.out;omega
                       case rel=>exact⟨(wrap64 (aP+1)),qS,H',⟨by have:=fK.out;have:=fL.out;have:=iR.out;have:=iL.out;have:=kG.out;omega⟩,⟨qG3 aD.out aX.out aX.out aX.out⟩,⟨qG3 aG.out aZ.out aZ.out aZ.out⟩,⟨qK3 HB.out aK.out bH.out gD.out⟩⟩
                     ·rw[if_neg c95]at H;exact absurd H (by simp)
                    ·rw[if_neg c94]at H;exact absurd H (by simp)
                   ·rw[if_neg c93]at H;have c93b0:decide (aP<(bN.length:Int))=false:=dF' c93;clear c93;have H':=A' H;clear H;go_wp2
                    go_roundg k5
                    case measure=>have:=fK.out;have:=fL.out;have:=iR.out;have:=iL.out;have:=kG.out;omega
                    case rel=>exact⟨(wrap64 (aA+1)),qS,H',⟨by have:=fK.out;have:=fL.out;have:=iR.out;have:=iL.out;have:=kG.out;omega⟩,⟨qB aD.out⟩,⟨qK2 HB.out aK.out bH.out⟩⟩
                ·rw[if_neg c89]at H;exact absurd H (by simp)
               ·rw[if_neg c88]at H;exact absurd H (by simp)
           ·rw[if_neg c60]at H;exact absurd H (by simp)
          ·rw[if_neg c59]at H;exact absurd H (by simp)
         ·rw[if_neg c58]at H;have c58b0:decide (aA<(aB.length:Int))=false:=dF' c58;clear c58;obtain rfl:=Option.some.inj H;go_wp2;go_ret;exact⟨qE,qK1 HB.out aK.out⟩
end Go.Proofs.Ytebbdadpgapobaa.HEl
