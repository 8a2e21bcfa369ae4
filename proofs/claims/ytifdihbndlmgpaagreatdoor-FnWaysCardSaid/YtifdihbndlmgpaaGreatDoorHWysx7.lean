-- Written by a program for this claim (the functions that the statement reaches, and that the program's code comes to them).
import Derived.Test.YtifdihbndlmgpaaGreatDoorHWysx0
import Derived.Test.YtifdihbndlmgpaaGreatDoorHWysx2
import Derived.Test.YtifdihbndlmgpaaGreatDoorHWysx3
import Derived.Test.YtifdihbndlmgpaaGreatDoorHWysx6
namespace Go.Proofs.YtifdihbndlmgpaaGreatDoor.HWys
open Go.RowKit Go.Proofs.YtifdihbndlmgpaaGreatDoorW.PrintWords Go.Proofs.YtifdihbndlmgpaaGreatDoorW.PrintLast Go.Proofs.YtifdihbndlmgpaaGreatDoorW.PrintMore
attribute [local go_sem] max2_int min2_int max_two min_two max_three min_three max_four min_four
set_option linter.unusedVariables false
set_option linter.unusedSimpArgs false
/-! ### impl_ReadWay: function 17 -/
mutual
def impl_ReadWay.l0:Nat→List (S51)→List ByteArray→Int→Int→Option ((List (S51))×Bool)
 |0,_,_,_,_=>none
 |k+1,x5,aB,aC,aA=>if aA<aC then(if 0≤aA then(if aA<(aB.length:Int)then(if(rdOf ByteArray.empty aB aA).toList=([]:List UInt8)then(impl_ReadWay.j1 k x5 (rdOf ByteArray.empty aB aA) aB aC aA true)else(if 0<((rdOf ByteArray.empty aB aA).size:Int)then(if(bt (rdOf ByteArray.empty aB aA) 0)=102 then(impl_ReadWay.j1 k x5 (rdOf ByteArray.empty aB aA) aB aC aA false)else(impl_ReadWay.j1 k x5 (rdOf ByteArray.empty aB aA) aB aC aA ((bt (rdOf ByteArray.empty aB aA) 0) != 109)))else(none)))else(none))else(none))else(some (x5,true))
def impl_ReadWay.j1:Nat→List (S51)→ByteArray→List ByteArray→Int→Int→Bool→Option ((List (S51))×Bool)
 |0,_,_,_,_,_,_=>none
 |k+1,x5,x7,aE,aC,aD,aF=>if aF=true then(some (([]:List (S51)),false))else(if 1≤(x7.size:Int)then((impl_ReadDecimal.f k (x7.extract 1 x7.size)).bind fun aA=>(if aA.2=true then((impl_within.f aA.1 0 3).bind fun aB=>(impl_ReadWay.j2 k x5 x7 aA.1 aE aC aD (!aB)))else(impl_ReadWay.j2 k x5 x7 aA.1 aE aC aD true)))else(none))
def impl_ReadWay.j2:Nat→List (S51)→ByteArray→Int→List ByteArray→Int→Int→Bool→Option ((List (S51))×Bool)
 |0,_,_,_,_,_,_,_=>none
 |k+1,x5,x7,x8,aC,aA,aB,aD=>if aD=true then(some (([]:List (S51)),false))else(if 0<(x7.size:Int)then(if(bt x7 0)=109 then(if x5.length<8796093022208 then(impl_ReadWay.l0 k (x5 ++ [(⟨1,x8⟩:S51)]) aC aA (wrap64 (aB+1)))else(none))else(if x5.length<8796093022208 then(impl_ReadWay.l0 k (x5 ++ [(⟨0,x8⟩:S51)]) aC aA (wrap64 (aB+1)))else(none)))else(none))
end
def impl_ReadWay.f (k:Nat) (a0:ByteArray):Option ((List (S51))×Bool):=(strings_Split.f a0 (⟨#[32]⟩:ByteArray)).bind fun aA=>(if(aA.length:Int) > 8 then(some (([]:List (S51)),false))else(impl_ReadWay.l0 k (([]:List (S51))) aA (aA.length:Int) 0))
theorem impl_ReadWay.mono_l: ∀k,(∀y0 y1 y2 y3,LeO (impl_ReadWay.l0 k y0 y1 y2 y3) (impl_ReadWay.l0 (k+1) y0 y1 y2 y3))∧(∀y0 y1 y2 y3 y4 y5,LeO (impl_ReadWay.j1 k y0 y1 y2 y3 y4 y5) (impl_ReadWay.j1 (k+1) y0 y1 y2 y3 y4 y5))∧(∀y0 y1 y2 y3 y4 y5 y6,LeO (impl_ReadWay.j2 k y0 y1 y2 y3 y4 y5 y6) (impl_ReadWay.j2 (k+1) y0 y1 y2 y3 y4 y5 y6))
 |0=>⟨fun _ _ _ _ r h=>by simp[impl_ReadWay.l0]at h,fun _ _ _ _ _ _ r h=>by simp[impl_ReadWay.j1]at h,fun _ _ _ _ _ _ _ r h=>by simp[impl_ReadWay.j2]at h⟩
 |k+1=>by
  obtain⟨aC,aA,aB⟩:=impl_ReadWay.mono_l k
  refine⟨?_,?_,?_⟩
  ·intro y0 y1 y2 y3
   unfold impl_ReadWay.l0
   repeat' first
   |(with_reducible exact aC _ _ _ _)
   |(with_reducible exact aA _ _ _ _ _ _)
   |(with_reducible exact aB _ _ _ _ _ _ _)
   |(with_reducible exact impl_ReadDecimal.mono _ _)
   |(with_reducible exact LeO.refl _)
   |(with_reducible exact LeO.none _)
   |(with_reducible refine LeO.ite ?_ ?_)
   |(with_reducible refine LeO.bind ?_ (fun _=>?_))
   |exact LeO.none _
   |refine LeO.ite ?_ ?_
   |refine LeO.bind ?_ (fun _=>?_)
  ·intro y0 y1 y2 y3 y4 y5
   unfold impl_ReadWay.j1
   repeat' first
   |(with_reducible exact aC _ _ _ _)
   |(with_reducible exact aA _ _ _ _ _ _)
   |(with_reducible exact aB _ _ _ _ _ _ _)
   |(with_reducible exact impl_ReadDecimal.mono _ _)
   |(with_reducible exact LeO.refl _)
   |(with_reducible exact LeO.none _)
   |(with_reducible refine LeO.ite ?_ ?_)
   |(with_reducible refine LeO.bind ?_ (fun _=>?_))
   |exact LeO.none _
   |refine LeO.ite ?_ ?_
   |refine LeO.bind ?_ (fun _=>?_)
  ·intro y0 y1 y2 y3 y4 y5 y6
   unfold impl_ReadWay.j2
   repeat' first
   |(with_reducible exact aC _ _ _ _)
   |(with_reducible exact aA _ _ _ _ _ _)
   |(with_reducible exact aB _ _ _ _ _ _ _)
   |(with_reducible exact impl_ReadDecimal.mono _ _)
   |(with_reducible exact LeO.refl _)
   |(with_reducible exact LeO.none _)
   |(with_reducible refine LeO.ite ?_ ?_)
   |(with_reducible refine LeO.bind ?_ (fun _=>?_))
   |exact LeO.none _
   |refine LeO.ite ?_ ?_
   |refine LeO.bind ?_ (fun _=>?_)
theorem impl_ReadWay.mono: ∀a0 k,LeO (impl_ReadWay.f k a0) (impl_ReadWay.f (k+1) a0):=by
 intro a0 k
 obtain⟨aA,aB,aC⟩:=impl_ReadWay.mono_l k
 unfold impl_ReadWay.f
 repeat' first
   |(with_reducible exact aA _ _ _ _)
   |(with_reducible exact aB _ _ _ _ _ _)
   |(with_reducible exact aC _ _ _ _ _ _ _)
   |(with_reducible exact impl_ReadDecimal.mono _ _)
   |(with_reducible exact LeO.refl _)
   |(with_reducible exact LeO.none _)
   |(with_reducible refine LeO.ite ?_ ?_)
   |(with_reducible refine LeO.bind ?_ (fun _=>?_))
   |exact LeO.none _
   |refine LeO.ite ?_ ?_
   |refine LeO.bind ?_ (fun _=>?_)
set_option maxHeartbeats 8000000 in
set_option maxRecDepth 100000 in
theorem impl_ReadWay.calls (k:Nat) (a0:ByteArray) (r1:List (S51)) (r2:Bool) (w:World) (h:impl_ReadWay.f k a0=some (r1,r2)) (hT:LwT w):
  Calls Tryz.prog 17 #[.string a0] w fun e w'=>∃v0_:Value,e= .returned (.tuple #[v0_,.bool r2])∧Kd.R k51 51 w' w.heap.size (fun _=>True) v0_ r1∧Below w.heap.size w w':=by
 have HT:=A' hT;clear hT;have cR:=Tryz.underlying51;have HB:=A' (Below.refl w.heap.size w);have H:((strings_Split.f a0 (⟨#[32]⟩:ByteArray)).bind fun aC=>(if(aC.length:Int) > 8 then(some (([]:List (S51)),false))else(impl_ReadWay.l0 k (([]:List (S51))) aC (aC.length:Int) 0)))=some (r1,r2):=h;clear h;replace H:=Option.bind_eq_some_iff.mp H;obtain⟨aC,cL,H⟩:=H;replace H:(if(aC.length:Int) > 8 then(some (([]:List (S51)),false))else(impl_ReadWay.l0 k (([]:List (S51))) aC (aC.length:Int) 0))=some (r1,r2):=H;have A2:=A' cL;clear cL
 by_cases c3:(aC.length:Int) > 8
 ·rw[if_pos c3]at H;have c3b0:decide (8<(aC.length:Int))=true:=dT' c3;have c3b1:decide (8<aC.length)=true:=dT' (by omega);clear c3;simp only[Option.some.injEq,Prod.mk.injEq]at H;obtain⟨rfl,rfl⟩:=H;go_enter Tryz.func17,Tryz.ntmps17;go_wp2_with (first|((with_reducible refine gate_callee (f:=41) rfl ?_);refine goesL_ (some 12) rfl rfl Tryz.func41 (by kernel_rfl) rfl #[.string a0,.string (⟨#[32]⟩:ByteArray)] rfl (by(try simp only[List.map_toArray,List.map_cons,List.map_nil]);first|done|rfl|(simp only[List.length_drop,List.length_take];rfl)) ?_;(with_reducible refine(strings_Split.calls a0 (⟨#[32]⟩:ByteArray) aC _ A2.out (HT.out.below (qK0 HB.out))).mono ?_);rintro e w4 ⟨cK,rfl,bY,hb⟩;refine⟨_,rfl,?_⟩;have n0_:=A' (Kd.R_lower bY (V' (qK0 HB.out)));have n1_:=A' (W' (qK0 HB.out) hb);clear HB;have aG:=n0_;have HB:=n1_;clear n0_ n1_;(try clear hb);(try clear cM);(try clear hk);(try clear hi);(try clear bY);obtain⟨dD,dB,cX⟩:=Kd.R_slice aG.out;subst cX));go_ret2;exact⟨_,qE,by first|exact Kd.R_nil _ _ _ _ _|exact Kd.N_nil _ _ _ _ _|exact Kd.V_nil _ _ _ _ _|exact Kd.Q_nil _ _ _ _ _|exact Kd.S_nil _ _ _ _ _,qK0 HB.out⟩
 ·rw[if_neg c3]at H;have c3b0:decide (8<(aC.length:Int))=false:=dF' c3;have c3b1:decide (8<aC.length)=false:=dF' (by omega);clear c3;obtain⟨bP,aN⟩: ∃y_:List (S51),y_=(([]:List (S51))):=⟨_,rfl⟩
  replace H:(impl_ReadWay.l0 k bP aC (aC.length:Int) 0)=some (r1,r2):=by first|(rw[aN];with_reducible exact H)|(have H2_:=(Option.bind_some _ _).symm.trans H;rw[aN];with_reducible exact H2_)|(have H2_:=(Option.bind_some _ _).symm.trans H;with_reducible exact H2_)|with_reducible exact H|(rw[aN];exact H)|exact H
  have bC:=A' aN;clear aN;have H':=A' H;clear H;go_enter Tryz.func17,Tryz.ntmps17;go_wp2_with (first|((with_reducible refine gate_callee (f:=41) rfl ?_);refine goesL_ (some 12) rfl rfl Tryz.func41 (by kernel_rfl) rfl #[.string a0,.string (⟨#[32]⟩:ByteArray)] rfl (by(try simp only[List.map_toArray,List.map_cons,List.map_nil]);first|done|rfl|(simp only[List.length_drop,List.length_take];rfl)) ?_;(with_reducible refine(strings_Split.calls a0 (⟨#[32]⟩:ByteArray) aC _ A2.out (HT.out.below (qK0 HB.out))).mono ?_);rintro e w6 ⟨cK,rfl,bY,hb⟩;refine⟨_,rfl,?_⟩;have n0_:=A' (Kd.R_lower bY (V' (qK0 HB.out)));have n1_:=A' (W' (qK0 HB.out) hb);clear HB;have aG:=n0_;have HB:=n1_;clear n0_ n1_;(try clear hb);(try clear cM);(try clear hk);(try clear hi);(try clear bY);obtain⟨cY,cH,cN⟩:=Kd.R_slice aG.out;subst cN)|((with_reducible refine gate_dst (N:=16) rfl ?_);refine Kd.R_lit k51 _ 51 ?hg (N:=16) ?hd (xs:=([]:List (S51))) (inner:=[]) (ok:=fun _=>True) (okp:=fun _=>True) ?hr ?hp (fun _ hk=>hk) trivial (Below.refl _ _) (Nat.le_refl _) (by simp) ?_;(case hd=>rfl);(case hg=>rfl);(case hr=>first|(go_simp;done)|(go_simp;rfl));(case hp=>exact(Reps.none _ _));intro cW w8 bT hb hg_ hnew_;clear hg_ hnew_;(first|rw[← bC.out]at bT|(simp only[Int.reduceToNat]at bT;rw[← bC.out]at bT));have n0_:=A' (L' (qR aG.out) hb);have n1_:=A' (Kd.R_lower bT (V' (qK0 HB.out)));have n2_:=A' (W' (qK0 HB.out) hb);clear aG;clear HB;have aG:=n0_;have bM:=n1_;have HB:=n2_;clear n0_ n1_ n2_;clear hb bT))
  go_loopg [5,19] k (fun kq v5 cV w'=>∃(aD:List (S51)) (aA:Int),cV= .int .i64 aA∧Aside0 (impl_ReadWay.l0 kq aD aC (aC.length:Int) aA=some (r1,r2))∧Aside0 (kq≤k)∧Aside0 (Kd.R k51 51 w' w.heap.size (fun _=>True) v5 aD)∧Aside0 (Kd.R Kd.string 9 w' w.heap.size (fun _=>True) (.slice cY aC.length cH) aC)∧Aside0 (Below w.heap.size w w'))
  case atStart=>exact⟨(bP),(0),qS,H',⟨Nat.le_refl _⟩,⟨qR bM.out⟩,⟨qR aG.out⟩,⟨qK0 HB.out⟩⟩
  case round=>
   clear H';try clear c1
   try clear p2
   try clear c3
   try clear c3b0
   try clear c3b1
   try clear c4
   obtain⟨aD,aA,rfl,HA,bA,HO_5,HO_17,HB⟩:=hrel
   cases gk with
   |zero=>exact absurd HA.out (by simp[impl_ReadWay.l0])
   |succ k1=>
    have H:=HA.out;clear HA;simp only[impl_ReadWay.l0]at H
    by_cases c10:aA<(aC.length:Int)
    ·rw[if_pos c10]at H;have c10b0:decide (aA<(aC.length:Int))=true:=dT' c10;clear c10
     by_cases c11:0≤aA
     ·rw[if_pos c11]at H;have c11b0:decide (0≤aA)=true:=dT' c11;clear c11
      by_cases c12:aA<(aC.length:Int)
      ·rw[if_pos c12]at H;have c12b0:decide (aA<(aC.length:Int))=true:=dT' c12;clear c12;have bI:=A' H;clear H;have aW:0≤(aA:Int):=oD' qA;have aX:aA<(aC.length:Int):=oD' qA;obtain⟨bB,cG,aT⟩:=Kd.at_string (Kd.R_reads' HO_17.out).2.2 aA aW aX
       cases cG
       replace aW:=eq_true aW;replace aX:=eq_true aX;go_upto_region 8 with (fail)
       go_cut [34] (fun cQ wc=>∃(kq:Nat) (aJ:Bool),cQ= .bool aJ∧Aside0 (impl_ReadWay.j1 kq aD (rdOf ByteArray.empty aC aA) aC (aC.length:Int) aA aJ=some (r1,r2))∧Aside0 (kq≤k1)∧Aside0 (Kd.R k51 51 wc w.heap.size (fun _=>True) u5 aD)∧Aside0 (Kd.R Kd.string 9 wc w.heap.size (fun _=>True) (.slice (some bB) aC.length cH) aC)∧Aside0 (Below w.heap.size w wc))
       case first=>
        have H:=bI.out;clear bI
        by_cases c14:(rdOf ByteArray.empty aC aA).toList=([]:List UInt8)
        ·rw[if_pos c14]at H;have c14b0:((rdOf ByteArray.empty aC aA).toList == ([]:List UInt8))=true:=beq_iff_eq.mpr c14;have c14b1:((rdOf ByteArray.empty aC aA).toList != ([]:List UInt8))=false:=bne_eq_false_iff_eq.mpr c14;clear c14;(first|rw[c14b0]|(simp only[i64_w,i32_w];rw[c14b0])|skip);have H':=A' H;clear H;go_wp2
         go_meet
         case rel=>exact⟨_,(true),qS,H',⟨by have:=bA.out;first|omega|exact Nat.le_refl _⟩,⟨qR HO_5.out⟩,⟨qR HO_17.out⟩,⟨qK0 HB.out⟩⟩
        ·rw[if_neg c14]at H;have c14b0:((rdOf ByteArray.empty aC aA).toList == ([]:List UInt8))=false:=beq_eq_false_iff_ne.mpr c14;have c14b1:((rdOf ByteArray.empty aC aA).toList != ([]:List UInt8))=true:=bne_iff_ne.mpr c14;(first|rw[c14b0]|(simp only[i64_w,i32_w];rw[c14b0])|skip)
         by_cases c15:0<((rdOf ByteArray.empty aC aA).size:Int)
         ·rw[if_pos c15]at H;have c15b0:decide (0<((rdOf ByteArray.empty aC aA).size:Int))=true:=dT' c15;have c15b1:decide (0<(rdOf ByteArray.empty aC aA).size)=true:=dT' (by omega);clear c15
          by_cases c17:(bt (rdOf ByteArray.empty aC aA) 0)=102
          ·rw[if_pos c17]at H;have c17b0:((bt (rdOf ByteArray.empty aC aA) 0) == 102)=true:=beq_iff_eq.mpr c17;have c17b1:((bt (rdOf ByteArray.empty aC aA) 0) != 102)=false:=bne_eq_false_iff_eq.mpr c17;clear c17;have H':=A' H;clear H;have bF:0≤(0:Int):=(by omega)
           have aY:0<(rdOf ByteArray.empty aC aA).size:=(by have:(0:Int)<((rdOf ByteArray.empty aC aA).size:Int):=oD' qA;omega)
           have bH: ∀h:0<(rdOf ByteArray.empty aC aA).size,(((rdOf ByteArray.empty aC aA)[0]'h).toNat:Int)=bt (rdOf ByteArray.empty aC aA) 0:=bt_at (rdOf ByteArray.empty aC aA) 0;clear bF;have bE:(0<((rdOf ByteArray.empty aC aA).size:Int))=True:=eq_true (oD' qA);replace aY:=eq_true aY;go_wp2
           go_meet
           case rel=>exact⟨_,(false),qS,H',⟨by have:=bA.out;first|omega|exact Nat.le_refl _⟩,⟨qR HO_5.out⟩,⟨qR HO_17.out⟩,⟨qK0 HB.out⟩⟩
          ·rw[if_neg c17]at H;have c17b0:((bt (rdOf ByteArray.empty aC aA) 0) == 102)=false:=beq_eq_false_iff_ne.mpr c17;have c17b1:((bt (rdOf ByteArray.empty aC aA) 0) != 102)=true:=bne_iff_ne.mpr c17;have H':=A' H;clear H;have bF:0≤(0:Int):=(by omega)
           have aY:0<(rdOf ByteArray.empty aC aA).size:=(by have:(0:Int)<((rdOf ByteArray.empty aC aA).size:Int):=oD' qA;omega)
           have bH: ∀h:0<(rdOf ByteArray.empty aC aA).size,(((rdOf ByteArray.empty aC aA)[0]'h).toNat:Int)=bt (rdOf ByteArray.empty aC aA) 0:=bt_at (rdOf ByteArray.empty aC aA) 0;clear bF;have bE:(0<((rdOf ByteArray.empty aC aA).size:Int))=True:=eq_true (oD' qA);replace aY:=eq_true aY;have p18:0≤(0:Int):=(by omega)
           have bJ:0<(rdOf ByteArray.empty aC aA).size:=(by have:(0:Int)<((rdOf ByteArray.empty aC aA).size:Int):=oD' qA;omega)
           have bQ: ∀h:0<(rdOf ByteArray.empty aC aA).size,(((rdOf ByteArray.empty aC aA)[0]'h).toNat:Int)=bt (rdOf ByteArray.empty aC aA) 0:=bt_at (rdOf ByteArray.empty aC aA) 0;clear p18;have cA:(0<((rdOf ByteArray.empty aC aA).size:Int))=True:=eq_true (oD' qA);replace bJ:=eq_true bJ;go_wp2
           go_meet
           case rel=>exact⟨_,(((bt (rdOf ByteArray.empty aC aA) 0) != 109)),qS,H',⟨by have:=bA.out;first|omega|exact Nat.le_refl _⟩,⟨qR HO_5.out⟩,⟨qR HO_17.out⟩,⟨qK0 HB.out⟩⟩
         ·rw[if_neg c15]at H;exact absurd H (by simp)
       case rest=>
        clear bI;try clear c1
        try clear p1
        try clear q1
        try clear hx1
        try clear qi1
        try clear p2
        try clear c3
        try clear c3b0
        try clear c3b1
        try clear c4
        try clear p4
        try clear q4
        try clear hx4
        try clear c10
        try clear c10b0
        try clear c11
        try clear c11b0
        try clear c12
        try clear c12b0
        try clear c14
        try clear c14b0
        try clear c14b1
        try clear c15
        try clear c15b0
        try clear c15b1
        try clear bF
        try clear aY
        try clear bH
        try clear bE
        try clear c17
        try clear c17b0
        try clear c17b1
        try clear p18
        try clear bJ
        try clear bQ
        try clear cA
        try clear aT
        try clear bF
        try clear p18
        try clear p2
        try clear aW
        try clear aY
        try clear bJ
        try clear aX
        obtain⟨kq,aJ,rfl,HA,aV,HO_5,HO_17,HB⟩:=hcut
        cases kq with
        |zero=>exact absurd HA.out (by simp[impl_ReadWay.j1])
        |succ aH=>
         have H:=HA.out;clear HA;simp only[impl_ReadWay.j1]at H
         by_cases bZ:aJ=true
         ·subst bZ;have H1:(some (([]:List (S51)),false))=some (r1,r2):=by rw[if_pos rfl]at H;exact H
          clear H;have H:=H1;clear H1;simp only[Option.some.injEq,Prod.mk.injEq]at H;obtain⟨rfl,rfl⟩:=H;go_wp2;go_ret2;exact⟨_,qE,by first|exact Kd.R_nil _ _ _ _ _|exact Kd.N_nil _ _ _ _ _|exact Kd.V_nil _ _ _ _ _|exact Kd.Q_nil _ _ _ _ _|exact Kd.S_nil _ _ _ _ _,qK0 HB.out⟩
         ·replace bZ:=Bool.eq_false_iff.mpr bZ;subst bZ;have H1:(if 1≤((rdOf ByteArray.empty aC aA).size:Int)then((impl_ReadDecimal.f aH ((rdOf ByteArray.empty aC aA).extract 1 (rdOf ByteArray.empty aC aA).size)).bind fun aR=>(if aR.2=true then((impl_within.f aR.1 0 3).bind fun aI=>(impl_ReadWay.j2 aH aD (rdOf ByteArray.empty aC aA) aR.1 aC (aC.length:Int) aA (!aI)))else(impl_ReadWay.j2 aH aD (rdOf ByteArray.empty aC aA) aR.1 aC (aC.length:Int) aA true)))else(none))=some (r1,r2):=by rw[if_neg (show¬(false=true) by decide)]at H;exact H
          clear H;have H:=H1;clear H1
          by_cases c20:1≤((rdOf ByteArray.empty aC aA).size:Int)
          ·rw[if_pos c20]at H;have c20b0:=eq_true c20;have c20b1:decide (1≤((rdOf ByteArray.empty aC aA).size:Int))=true:=dT' c20;clear c20;replace H:=Option.bind_eq_some_iff.mp H;obtain⟨⟨aE,bG⟩,bO,H⟩:=H;replace H:(if bG=true then((impl_within.f aE 0 3).bind fun aI=>(impl_ReadWay.j2 aH aD (rdOf ByteArray.empty aC aA) aE aC (aC.length:Int) aA (!aI)))else(impl_ReadWay.j2 aH aD (rdOf ByteArray.empty aC aA) aE aC (aC.length:Int) aA true))=some (r1,r2):=H;have cT:=A' bO;clear bO;have bD:=A' H;clear H;go_upto_region 11 with (first|((with_reducible refine gate_callee (f:=42) rfl ?_);refine goesL_ (some 38) rfl rfl Tryz.func42 (by kernel_rfl) rfl #[.string ((rdOf ByteArray.empty aC aA).extract 1 (rdOf ByteArray.empty aC aA).size)] rfl (by(try simp only[List.map_toArray,List.map_cons,List.map_nil]);first|done|rfl|(simp only[List.length_drop,List.length_take];rfl)) ?_;(with_reducible refine(impl_ReadDecimal.calls aH ((rdOf ByteArray.empty aC aA).extract 1 (rdOf ByteArray.empty aC aA).size) aE bG _ cT.out (HT.out.below (qK0 HB.out))).mono ?_);rintro e cZ ⟨rfl,hb⟩;refine⟨_,rfl,?_⟩;replace HO_5:=A' (L' (qR HO_5.out) hb);replace HO_17:=A' (L' (qR HO_17.out) hb);replace HB:=A' (W' (qK0 HB.out) hb);(try clear hb);(try clear cM);(try clear hk);(try clear hi)))
           (try simp only[Act.put,List.setIfInBounds_toArray,List.set_cons_zero,List.set_cons_succ])
           go_cut [47] (fun cU wc=>∃(kq:Nat) (aK:Bool),cU= .bool aK∧Aside0 (impl_ReadWay.j2 kq aD (rdOf ByteArray.empty aC aA) aE aC (aC.length:Int) aA aK=some (r1,r2))∧Aside0 (kq≤aH)∧Aside0 (Kd.R k51 51 wc w.heap.size (fun _=>True) u5 aD)∧Aside0 (Kd.R Kd.string 9 wc w.heap.size (fun _=>True) (.slice (some bB) aC.length cH) aC)∧Aside0 (Below w.heap.size w wc))
           case first=>
            have H:=bD.out;clear bD
            by_cases bL:bG=true
            ·subst bL;have H1:((impl_within.f aE 0 3).bind fun aI=>(impl_ReadWay.j2 aH aD (rdOf ByteArray.empty aC aA) aE aC (aC.length:Int) aA (!aI)))=some (r1,r2):=by rw[if_pos rfl]at H;exact H
             clear H;have H:=H1;clear H1;replace H:=Option.bind_eq_some_iff.mp H;obtain⟨aI,bR,H⟩:=H;replace H:(impl_ReadWay.j2 aH aD (rdOf ByteArray.empty aC aA) aE aC (aC.length:Int) aA (!aI))=some (r1,r2):=H;have cP:=A' bR;clear bR;have H':=A' H;clear H;go_wp2_with (first|(go_at_call 43;(with_reducible refine(impl_within.calls aE 0 3 aI _ cP.out).mono ?_);rintro e w' ⟨rfl,⟨nd,rfl⟩⟩))
             go_meet
             case rel=>exact⟨_,(!aI),qS,H',⟨by have:=bA.out;have:=aV.out;first|omega|exact Nat.le_refl _⟩,⟨qR HO_5.out⟩,⟨qR HO_17.out⟩,⟨qK0 HB.out⟩⟩
            ·replace bL:=Bool.eq_false_iff.mpr bL;subst bL;have H1:(impl_ReadWay.j2 aH aD (rdOf ByteArray.empty aC aA) aE aC (aC.length:Int) aA true)=some (r1,r2):=by rw[if_neg (show¬(false=true) by decide)]at H;exact H
             clear H;have H:=H1;clear H1;have H':=A' H;clear H;go_wp2
             go_meet
             case rel=>exact⟨_,(true),qS,H',⟨by have:=bA.out;have:=aV.out;first|omega|exact Nat.le_refl _⟩,⟨qR HO_5.out⟩,⟨qR HO_17.out⟩,⟨qK0 HB.out⟩⟩
           case rest=>
            clear bD;try clear c1
            try clear p1
            try clear q1
            try clear hx1
            try clear qi1
            try clear c2
            try clear p2
            try clear c3
            try clear c3b0
            try clear c3b1
            try clear c4
            try clear p4
            try clear q4
            try clear hx4
            try clear c10
            try clear c10b0
            try clear c11
            try clear c11b0
            try clear c12
            try clear c12b0
            try clear c14
            try clear c14b0
            try clear c14b1
            try clear c15
            try clear c15b0
            try clear c15b1
            try clear bF
            try clear aY
            try clear bH
            try clear bE
            try clear c17
            try clear c17b0
            try clear c17b1
            try clear p18
            try clear bJ
            try clear bQ
            try clear cA
            try clear bZ
            try clear c20
            try clear c20b0
            try clear c20b1
            try clear bL
            try clear aT
            try clear p1
            try clear bF
            try clear p18
            try clear p2
            try clear p4
            try clear aW
            try clear q1
            try clear aY
            try clear bJ
            try clear q4
            try clear aX
            obtain⟨kq,aK,rfl,HA,aZ,HO_5,HO_17,HB⟩:=hcut
            cases kq with
            |zero=>exact absurd HA.out (by simp[impl_ReadWay.j2])
            |succ aU=>
             have H:=HA.out;clear HA;simp only[impl_ReadWay.j2]at H
             by_cases cE:aK=true
             ·subst cE;have H1:(some (([]:List (S51)),false))=some (r1,r2):=by rw[if_pos rfl]at H;exact H
              clear H;have H:=H1;clear H1;simp only[Option.some.injEq,Prod.mk.injEq]at H;obtain⟨rfl,rfl⟩:=H;go_wp2;go_ret2;exact⟨_,qE,by first|exact Kd.R_nil _ _ _ _ _|exact Kd.N_nil _ _ _ _ _|exact Kd.V_nil _ _ _ _ _|exact Kd.Q_nil _ _ _ _ _|exact Kd.S_nil _ _ _ _ _,qK0 HB.out⟩
             ·replace cE:=Bool.eq_false_iff.mpr cE;subst cE;have H1:(if 0<((rdOf ByteArray.empty aC aA).size:Int)then(if(bt (rdOf ByteArray.empty aC aA) 0)=109 then(if aD.length<8796093022208 then(impl_ReadWay.l0 aU (aD ++ [(⟨1,aE⟩:S51)]) aC (aC.length:Int) (wrap64 (aA+1)))else(none))else(if aD.length<8796093022208 then(impl_ReadWay.l0 aU (aD ++ [(⟨0,aE⟩:S51)]) aC (aC.length:Int) (wrap64 (aA+1)))else(none)))else(none))=some (r1,r2):=by rw[if_neg (show¬(false=true) by decide)]at H;exact H
              clear H;have H:=H1;clear H1
              by_cases c27:0<((rdOf ByteArray.empty aC aA).size:Int)
              ·rw[if_pos c27]at H;have c27b0:decide (0<((rdOf ByteArray.empty aC aA).size:Int))=true:=dT' c27;have c27b1:decide (0<(rdOf ByteArray.empty aC aA).size)=true:=dT' (by omega);clear c27
               by_cases c29:(bt (rdOf ByteArray.empty aC aA) 0)=109
               ·rw[if_pos c29]at H;have c29b0:((bt (rdOf ByteArray.empty aC aA) 0) == 109)=true:=beq_iff_eq.mpr c29;have c29b1:((bt (rdOf ByteArray.empty aC aA) 0) != 109)=false:=bne_eq_false_iff_eq.mpr c29;clear c29
                by_cases c30:aD.length<8796093022208
                ·rw[if_pos c30]at H;have cC:=A' c30;clear c30;obtain⟨bX,aQ⟩: ∃y_:List (S51),y_=(aD ++ [(⟨1,aE⟩:S51)]):=⟨_,rfl⟩
                 replace H:(impl_ReadWay.l0 aU bX aC (aC.length:Int) (wrap64 (aA+1)))=some (r1,r2):=by first|(rw[aQ];with_reducible exact H)|(have H2_:=(Option.bind_some _ _).symm.trans H;rw[aQ];with_reducible exact H2_)|(have H2_:=(Option.bind_some _ _).symm.trans H;with_reducible exact H2_)|with_reducible exact H|(rw[aQ];exact H)|exact H
                 have bK:=A' aQ;clear aQ;have H':=A' H;clear H;have cI:0≤(0:Int):=(by omega)
                 have bN:0<(rdOf ByteArray.empty aC aA).size:=(by have:(0:Int)<((rdOf ByteArray.empty aC aA).size:Int):=oD' qA;omega)
                 have cF: ∀h:0<(rdOf ByteArray.empty aC aA).size,(((rdOf ByteArray.empty aC aA)[0]'h).toNat:Int)=bt (rdOf ByteArray.empty aC aA) 0:=bt_at (rdOf ByteArray.empty aC aA) 0;clear cI;have cJ:(0<((rdOf ByteArray.empty aC aA).size:Int))=True:=eq_true (oD' qA);replace bN:=eq_true bN;go_wp2_with (first|((with_reducible refine gate_builtin (b:=.append) (xs:=#[.tmp 51,.tmp 55]) rfl ?_);at_builtin;refine Kd.R_append k51 (w0:=w) w.heap.size rfl (.tmp 51) (.tmp 55) 26 51 (.agg #[(.int .i64 0),(.int .i64 0)]) 16 rfl Tryz.underlying26 info51 rfl (by decide) (by omega) u5 aD (⟨1,aE⟩:S51) [.int .i64 1,.int .i64 aE] (fun _=>True) (fun _=>False) rfl rfl ?aP (fun _ hk=>hk.elim) ?aF ?aO ?aB ?aS ?aL ?_;(case aP=>exact k51_mkM _ _ _ (⟨1,aE⟩:S51));(case aB=>exact(qK0 HB.out));(case aF=>exact(fun _ _=>trivial));(case aO=>exact(qR HO_5.out));(case aS=>exact(V' (qK0 HB.out)));(case aL=>have:=cC.out;omega);intro cS dA ho hb hg hat;rw[← bK.out]at ho;have n0_:=A' (Kd.R_over' (qR HO_17.out) (Kd.R_typed (qR HO_5.out)) (by decide) hg);have n1_:=A' (hb);have n2_:=A' (ho);clear HO_17;clear HB;clear HO_5;have HO_17:=n0_;have HB:=n1_;have cD:=n2_;clear n0_ n1_ n2_;clear ho hb hg hat))
                 go_roundg aU
                 case measure=>have:=bA.out;have:=aV.out;have:=aZ.out;omega
                 case rel=>exact⟨(bX),(wrap64 (aA+1)),qS,H',⟨by have:=bA.out;have:=aV.out;have:=aZ.out;omega⟩,⟨qR cD.out⟩,⟨qR HO_17.out⟩,⟨qK0 HB.out⟩⟩
                ·rw[if_neg c30]at H;exact absurd H (by simp)
               ·rw[if_neg c29]at H;have c29b0:((bt (rdOf ByteArray.empty aC aA) 0) == 109)=false:=beq_eq_false_iff_ne.mpr c29;have c29b1:((bt (rdOf ByteArray.empty aC aA) 0) != 109)=true:=bne_iff_ne.mpr c29
                by_cases c32:aD.length<8796093022208
                ·rw[if_pos c32]at H;have bS:=A' c32;clear c32;obtain⟨bV,aM⟩: ∃y_:List (S51),y_=(aD ++ [(⟨0,aE⟩:S51)]):=⟨_,rfl⟩
                 replace H:(impl_ReadWay.l0 aU bV aC (aC.length:Int) (wrap64 (aA+1)))=some (r1,r2):=by first|(rw[aM];with_reducible exact H)|(have H2_:=(Option.bind_some _ _).symm.trans H;rw[aM];with_reducible exact H2_)|(have H2_:=(Option.bind_some _ _).symm.trans H;with_reducible exact H2_)|with_reducible exact H|(rw[aM];exact H)|exact H
                 have bW:=A' aM;clear aM;have H':=A' H;clear H;have cI:0≤(0:Int):=(by omega)
                 have bN:0<(rdOf ByteArray.empty aC aA).size:=(by have:(0:Int)<((rdOf ByteArray.empty aC aA).size:Int):=oD' qA;omega)
                 have cF: ∀h:0<(rdOf ByteArray.empty aC aA).size,(((rdOf ByteArray.empty aC aA)[0]'h).toNat:Int)=bt (rdOf ByteArray.empty aC aA) 0:=bt_at (rdOf ByteArray.empty aC aA) 0;clear cI;have cJ:(0<((rdOf ByteArray.empty aC aA).size:Int))=True:=eq_true (oD' qA);replace bN:=eq_true bN;go_wp2_with (first|((with_reducible refine gate_builtin (b:=.append) (xs:=#[.tmp 51,.tmp 55]) rfl ?_);at_builtin;refine Kd.R_append k51 (w0:=w) w.heap.size rfl (.tmp 51) (.tmp 55) 26 51 (.agg #[(.int .i64 0),(.int .i64 0)]) 16 rfl Tryz.underlying26 info51 rfl (by decide) (by omega) u5 aD (⟨0,aE⟩:S51) [.int .i64 0,.int .i64 aE] (fun _=>True) (fun _=>False) rfl rfl ?aP (fun _ hk=>hk.elim) ?aF ?aO ?aB ?aS ?aL ?_;(case aP=>exact k51_mkM _ _ _ (⟨0,aE⟩:S51));(case aB=>exact(qK0 HB.out));(case aF=>exact(fun _ _=>trivial));(case aO=>exact(qR HO_5.out));(case aS=>exact(V' (qK0 HB.out)));(case aL=>have:=bS.out;omega);intro cO dC ho hb hg hat;rw[← bW.out]at ho;have n0_:=A' (Kd.R_over' (qR HO_17.out) (Kd.R_typed (qR HO_5.out)) (by decide) hg);have n1_:=A' (hb);have n2_:=A' (ho);clear HO_17;clear HB;clear HO_5;have HO_17:=n0_;have HB:=n1_;have bU:=n2_;clear n0_ n1_ n2_;clear ho hb hg hat))
                 go_roundg aU
                 case measure=>have:=bA.out;have:=aV.out;have:=aZ.out;omega
                 case rel=>exact⟨(bV),(wrap64 (aA+1)),qS,H',⟨by have:=bA.out;have:=aV.out;have:=aZ.out;omega⟩,⟨qR bU.out⟩,⟨qR HO_17.out⟩,⟨qK0 HB.out⟩⟩
                ·rw[if_neg c32]at H;exact absurd H (by simp)
              ·rw[if_neg c27]at H;exact absurd H (by simp)
          ·rw[if_neg c20]at H;exact absurd H (by simp)
      ·rw[if_neg c12]at H;exact absurd H (by simp)
     ·rw[if_neg c11]at H;exact absurd H (by simp)
    ·rw[if_neg c10]at H;have c10b0:decide (aA<(aC.length:Int))=false:=dF' c10;clear c10;simp only[Option.some.injEq,Prod.mk.injEq]at H;obtain⟨rfl,rfl⟩:=H;go_wp2;go_ret2;exact⟨_,qE,qR HO_5.out,qK0 HB.out⟩
/-! ### spec_l01Dec: function 65 -/
def spec_l01Dec.l0:Nat→Int→List Int→Int→Option (ByteArray)
 |0,_,_,_=>none
 |k+1,x0,x3,x4=>if x4=0 then(if(x3.length:Int)=0 then(some (⟨#[48]⟩:ByteArray))else(if x0<0 then(if 1+(strOfNums x3).size≤9223372036854775807 then(some ((⟨#[45]⟩:ByteArray) ++ (strOfNums x3)))else(none))else(some (strOfNums x3))))else(if(Int.tmod x4 10)<0 then((some (([(wrap64 (48+(wrap64 (-(Int.tmod x4 10))))) % 256]:List Int):List Int)).bind fun aB=>(if aB.length+x3.length<140737488355328 then(spec_l01Dec.l0 k x0 (aB ++ x3) (wrap64 (Int.tdiv x4 10)))else(none)))else((some (([(wrap64 (48+(Int.tmod x4 10))) % 256]:List Int):List Int)).bind fun aA=>(if aA.length+x3.length<140737488355328 then(spec_l01Dec.l0 k x0 (aA ++ x3) (wrap64 (Int.tdiv x4 10)))else(none))))
def spec_l01Dec.f (k:Nat) (a0:Int):Option (ByteArray):=spec_l01Dec.l0 k a0 (([]:List Int)) a0
theorem spec_l01Dec.mono_l: ∀k,(∀y0 y1 y2,LeO (spec_l01Dec.l0 k y0 y1 y2) (spec_l01Dec.l0 (k+1) y0 y1 y2))
 |0=>fun _ _ _ r h=>by simp[spec_l01Dec.l0]at h
 |k+1=>by
  have aA:=spec_l01Dec.mono_l k
  ·intro y0 y1 y2
   unfold spec_l01Dec.l0
   repeat' first
   |(with_reducible exact aA _ _ _)
   |(with_reducible exact LeO.refl _)
   |(with_reducible exact LeO.none _)
   |(with_reducible refine LeO.ite ?_ ?_)
   |(with_reducible refine LeO.bind ?_ (fun _=>?_))
   |exact LeO.none _
   |refine LeO.ite ?_ ?_
   |refine LeO.bind ?_ (fun _=>?_)
theorem spec_l01Dec.mono: ∀a0 k,LeO (spec_l01Dec.f k a0) (spec_l01Dec.f (k+1) a0):=by
 intro a0 k
 have aA:=spec_l01Dec.mono_l k
 unfold spec_l01Dec.f
 repeat' first
   |(with_reducible exact aA _ _ _)
   |(with_reducible exact LeO.refl _)
   |(with_reducible exact LeO.none _)
   |(with_reducible refine LeO.ite ?_ ?_)
   |(with_reducible refine LeO.bind ?_ (fun _=>?_))
   |exact LeO.none _
   |refine LeO.ite ?_ ?_
   |refine LeO.bind ?_ (fun _=>?_)
set_option maxHeartbeats 8000000 in
set_option maxRecDepth 100000 in
theorem spec_l01Dec.calls (k:Nat) (a0:Int) (r:ByteArray) (w:World) (h:spec_l01Dec.f k a0=some r):
  Calls Tryz.prog 65 #[.int .i64 a0] w fun e w'=>e= .returned (.string r)∧Below w.heap.size w w':=by
 have HB:=A' (Below.refl w.heap.size w);have H:(spec_l01Dec.l0 k a0 (([]:List Int)) a0)=some r:=h;clear h;obtain⟨bB,aI⟩: ∃y_:List Int,y_=(([]:List Int)):=⟨_,rfl⟩
 replace H:(spec_l01Dec.l0 k a0 bB a0)=some r:=by first|(rw[aI];with_reducible exact H)|(have H2_:=(Option.bind_some _ _).symm.trans H;rw[aI];with_reducible exact H2_)|(have H2_:=(Option.bind_some _ _).symm.trans H;with_reducible exact H2_)|with_reducible exact H|(rw[aI];exact H)|exact H
 have aP:=A' aI;clear aI;have H':=A' H;clear H;go_enter Tryz.func65,Tryz.ntmps65;go_wp2_with (first|((with_reducible refine gate_dst (N:=6) rfl ?_);refine Kd.R_lit (Kd.int .u8) _ 5 ?hg (N:=6) ?hd (xs:=([]:List Int)) (inner:=[]) (ok:=fun _=>True) (okp:=fun _=>True) ?hr ?hp (fun _ hk=>hk) trivial (Below.refl _ _) (Nat.le_refl _) (by simp) ?_;(case hd=>rfl);(case hg=>rfl);(case hr=>first|(go_simp;done)|(go_simp;rfl));(case hp=>exact(Reps.none _ _));intro bT w2 aZ hb hg_ hnew_;clear hg_ hnew_;(first|rw[← aP.out]at aZ|(simp only[Int.reduceToNat]at aZ;rw[← aP.out]at aZ));have n0_:=A' (Kd.R_lower aZ (V' (qK0 HB.out)));have n1_:=A' (W' (qK0 HB.out) hb);clear HB;have bC:=n0_;have HB:=n1_;clear n0_ n1_;clear hb aZ))
 go_loopg [3,4] k (fun kq v3 v4 w'=>∃(aC:List Int) (aA:Int),v4= .int .i64 aA∧Aside0 (spec_l01Dec.l0 kq a0 aC aA=some r)∧Aside0 (kq≤k)∧Aside0 (Kd.R (Kd.int .u8) 5 w' w.heap.size (fun _=>True) v3 aC)∧Aside0 (Below w.heap.size w w'))
 case atStart=>exact⟨(bB),(a0),qS,H',⟨Nat.le_refl _⟩,⟨qR bC.out⟩,⟨qK0 HB.out⟩⟩
 case round=>
  clear H';try clear p2
  obtain⟨aC,aA,rfl,HA,bH,HO_3,HB⟩:=hrel
  cases gk with
  |zero=>exact absurd HA.out (by simp[spec_l01Dec.l0])
  |succ k1=>
   have H:=HA.out;clear HA;simp only[spec_l01Dec.l0]at H
   by_cases c4:aA=0
   ·rw[if_pos c4]at H;have c4b0:(aA == 0)=true:=beq_iff_eq.mpr c4;have c4b1:(aA != 0)=false:=bne_eq_false_iff_eq.mpr c4;clear c4
    by_cases c5:(aC.length:Int)=0
    ·rw[if_pos c5]at H;have c5b0:((aC.length:Int) == 0)=true:=beq_iff_eq.mpr c5;have c5b1:((aC.length:Int) != 0)=false:=bne_eq_false_iff_eq.mpr c5;clear c5;obtain rfl:=Option.some.inj H;obtain⟨cI,cA,bY⟩:=Kd.R_slice HO_3.out;subst bY;go_wp2;go_ret;exact⟨qE,qK0 HB.out⟩
    ·rw[if_neg c5]at H;have c5b0:((aC.length:Int) == 0)=false:=beq_eq_false_iff_ne.mpr c5;have c5b1:((aC.length:Int) != 0)=true:=bne_iff_ne.mpr c5;have c5b2: ¬(aC= []):=fun h_=>c5 (by rw[h_];rfl)
     by_cases c7:a0<0
     ·rw[if_pos c7]at H;have c7b0:decide (a0<0)=true:=dT' c7;clear c7
      by_cases c8:1+(strOfNums aC).size≤9223372036854775807
      ·rw[if_pos c8]at H;have c8b0:=eq_true c8;have c8b1:decide (1+(strOfNums aC).size≤9223372036854775807)=true:=dT' c8;try have c8b2:(9223372036854775807<1+(strOfNums aC).size)=False:=eq_false (Nat.not_lt.2 c8)
       obtain rfl:=Option.some.inj H;obtain⟨cD,cC,bW⟩:=Kd.R_slice HO_3.out;subst bW;have bR:=own_string (P:=Tryz.prog) Tryz.underlying22 Tryz.underlying5 Tryz.underlying9 (Kd.own_of_R HO_3.out);go_wp2;go_ret;exact⟨qE,qK0 HB.out⟩
      ·rw[if_neg c8]at H;exact absurd H (by simp)
     ·rw[if_neg c7]at H;have c7b0:decide (a0<0)=false:=dF' c7;clear c7;obtain rfl:=Option.some.inj H;obtain⟨bV,bX,bO⟩:=Kd.R_slice HO_3.out;subst bO;have bS:=own_string (P:=Tryz.prog) Tryz.underlying22 Tryz.underlying5 Tryz.underlying9 (Kd.own_of_R HO_3.out);go_wp2;go_ret;exact⟨qE,qK0 HB.out⟩
   ·rw[if_neg c4]at H;have c4b0:(aA == 0)=false:=beq_eq_false_iff_ne.mpr c4;have c4b1:(aA != 0)=true:=bne_iff_ne.mpr c4
    by_cases c13:(Int.tmod aA 10)<0
    ·rw[if_pos c13]at H;have c13b0:decide ((Int.tmod aA 10)<0)=true:=dT' c13;clear c13;obtain⟨aM,aD⟩: ∃y_:List Int,y_=(([(wrap64 (48+(wrap64 (-(Int.tmod aA 10))))) % 256]:List Int)):=⟨_,rfl⟩
     replace H:(if aM.length+aC.length<140737488355328 then(spec_l01Dec.l0 k1 a0 (aM ++ aC) (wrap64 (Int.tdiv aA 10)))else(none))=some r:=by first|(rw[aD];with_reducible exact H)|(have H2_:=(Option.bind_some _ _).symm.trans H;rw[aD];with_reducible exact H2_)|(have H2_:=(Option.bind_some _ _).symm.trans H;with_reducible exact H2_)|with_reducible exact H|(rw[aD];exact H)|exact H
     have aT:=A' aD;clear aD
     by_cases c14:aM.length+aC.length<140737488355328
     ·rw[if_pos c14]at H;have aY:=A' c14;clear c14;obtain⟨bA,aE⟩: ∃y_:List Int,y_=(aM ++ aC):=⟨_,rfl⟩
      replace H:(spec_l01Dec.l0 k1 a0 bA (wrap64 (Int.tdiv aA 10)))=some r:=by first|(rw[aE];with_reducible exact H)|(have H2_:=(Option.bind_some _ _).symm.trans H;rw[aE];with_reducible exact H2_)|(have H2_:=(Option.bind_some _ _).symm.trans H;with_reducible exact H2_)|with_reducible exact H|(rw[aE];exact H)|exact H
      have bD:=A' aE;clear aE;have H':=A' H;clear H;go_wp2_with (first|((with_reducible refine gate_dst (N:=21) rfl ?_);refine Kd.R_lit (Kd.int .u8) _ 5 ?hg (N:=21) ?hd (xs:=([(wrap64 (48+(wrap64 (-(Int.tmod aA 10))))) % 256]:List Int)) (inner:=[.int .u8 ((wrap64 (48+(wrap64 (-(Int.tmod aA 10))))) % 256)]) (ok:=fun _=>True) (okp:=fun _=>True) ?hr ?hp (fun _ hk=>hk) trivial (Below.refl _ _) (Nat.le_refl _) (by simp) ?_;(case hd=>rfl);(case hg=>rfl);(case hr=>first|(go_simp;done)|(go_simp;rfl));(case hp=>exact(Reps.one (show Kd.M (Kd.int .u8) _ _ _ ((wrap64 (48+(wrap64 (-(Int.tmod aA 10))))) % 256) [.int .u8 ((wrap64 (48+(wrap64 (-(Int.tmod aA 10))))) % 256)]from rfl) (Reps.none _ _)));intro bL cF aJ hb hg_ hnew_;clear hg_ hnew_;(first|rw[← aT.out]at aJ|(simp only[Int.reduceToNat]at aJ;rw[← aT.out]at aJ));have n0_:=A' (Kd.R_elder' (qR HO_3.out) (Kd.R_base aJ) hb);have n1_:=A' (Kd.R_lower (U' aJ (Kd.R_lt (qR HO_3.out))) (V' (qK0 HB.out)));have n2_:=A' (W' (qK0 HB.out) hb);clear HO_3;clear HB;have HO_3:=n0_;have aQ:=n1_;have HB:=n2_;clear n0_ n1_ n2_;clear hb aJ;obtain⟨bQ,bM,bI⟩:=Kd.R_slice HO_3.out;subst bI)|((with_reducible refine gate_builtin (b:=.append) (xs:=#[.tmp 21,.tmp 22]) rfl ?_);at_builtin;refine Kd.R_append_rows (Kd.int .u8) (w0:=w) w.heap.size rfl (.tmp 21) (.tmp 22) 22 5 (.int .u8 0) 1 rfl Tryz.underlying22 info5 rfl (by decide) (by omega) bL aM aC _ _ _ (fun k_=>some k_≠(.slice bQ aC.length bM:Value).ownBlock) (fun _=>False) rfl rfl ?aO ?aR (fun _ _ h=>h) (fun _ h=>h.elim) ?aF ?aB ?aS ?aL ?_;(case aR=>repeat(first|exact(Kd.R_reads' HO_3.out).2.2|(with_reducible refine R' ?_ _)|(with_reducible refine S' ?_ _)|(with_reducible refine T' ?_)));(case aB=>exact(qK0 HB.out));(case aF=>exact(fun k_ hk=>Kd.fresh' (Kd.R_lt (qR HO_3.out)) k_ hk));(case aO=>exact(by(with_reducible repeat(first|apply B'|apply C'|apply D'));exact Q' aQ.out (fun _ hk=>hk.2)));(case aS=>exact(V' (qK0 HB.out)));(case aL=>have:=aY.out;omega);intro bU cG ho hb hg hat;rw[← bD.out]at ho;have n0_:=A' (Kd.R_after (ok:=(fun _=>True)) (qR HO_3.out) hg hat);have n1_:=A' (hb);have n2_:=A' (ho);clear HO_3;clear HB;clear aQ;have HO_3:=n0_;have HB:=n1_;have bG:=n2_;clear n0_ n1_ n2_;clear ho hb hg hat))
      go_roundg k1
      case measure=>have:=bH.out;omega
      case rel=>exact⟨(bA),(wrap64 (Int.tdiv aA 10)),qS,H',⟨by have:=bH.out;omega⟩,⟨by(with_reducible repeat(first|apply B'|apply C'|apply D'));exact Q' bG.out (fun _ hk=>trivial)⟩,⟨qK0 HB.out⟩⟩
     ·rw[if_neg c14]at H;exact absurd H (by simp)
    ·rw[if_neg c13]at H;have c13b0:decide ((Int.tmod aA 10)<0)=false:=dF' c13;clear c13;obtain⟨aN,aG⟩: ∃y_:List Int,y_=(([(wrap64 (48+(Int.tmod aA 10))) % 256]:List Int)):=⟨_,rfl⟩
     replace H:(if aN.length+aC.length<140737488355328 then(spec_l01Dec.l0 k1 a0 (aN ++ aC) (wrap64 (Int.tdiv aA 10)))else(none))=some r:=by first|(rw[aG];with_reducible exact H)|(have H2_:=(Option.bind_some _ _).symm.trans H;rw[aG];with_reducible exact H2_)|(have H2_:=(Option.bind_some _ _).symm.trans H;with_reducible exact H2_)|with_reducible exact H|(rw[aG];exact H)|exact H
     have aU:=A' aG;clear aG
     by_cases c19:aN.length+aC.length<140737488355328
     ·rw[if_pos c19]at H;have aX:=A' c19;clear c19;obtain⟨bF,aH⟩: ∃y_:List Int,y_=(aN ++ aC):=⟨_,rfl⟩
      replace H:(spec_l01Dec.l0 k1 a0 bF (wrap64 (Int.tdiv aA 10)))=some r:=by first|(rw[aH];with_reducible exact H)|(have H2_:=(Option.bind_some _ _).symm.trans H;rw[aH];with_reducible exact H2_)|(have H2_:=(Option.bind_some _ _).symm.trans H;with_reducible exact H2_)|with_reducible exact H|(rw[aH];exact H)|exact H
      have aW:=A' aH;clear aH;have H':=A' H;clear H;go_wp2_with (first|((with_reducible refine gate_dst (N:=21) rfl ?_);refine Kd.R_lit (Kd.int .u8) _ 5 ?hg (N:=21) ?hd (xs:=([(wrap64 (48+(Int.tmod aA 10))) % 256]:List Int)) (inner:=[.int .u8 ((wrap64 (48+(Int.tmod aA 10))) % 256)]) (ok:=fun _=>True) (okp:=fun _=>True) ?hr ?hp (fun _ hk=>hk) trivial (Below.refl _ _) (Nat.le_refl _) (by simp) ?_;(case hd=>rfl);(case hg=>rfl);(case hr=>first|(go_simp;done)|(go_simp;rfl));(case hp=>exact(Reps.one (show Kd.M (Kd.int .u8) _ _ _ ((wrap64 (48+(Int.tmod aA 10))) % 256) [.int .u8 ((wrap64 (48+(Int.tmod aA 10))) % 256)]from rfl) (Reps.none _ _)));intro bK cE aK hb hg_ hnew_;clear hg_ hnew_;(first|rw[← aU.out]at aK|(simp only[Int.reduceToNat]at aK;rw[← aU.out]at aK));have n0_:=A' (Kd.R_elder' (qR HO_3.out) (Kd.R_base aK) hb);have n1_:=A' (Kd.R_lower (U' aK (Kd.R_lt (qR HO_3.out))) (V' (qK0 HB.out)));have n2_:=A' (W' (qK0 HB.out) hb);clear HO_3;clear HB;have HO_3:=n0_;have aV:=n1_;have HB:=n2_;clear n0_ n1_ n2_;clear hb aK;obtain⟨bN,bP,bJ⟩:=Kd.R_slice HO_3.out;subst bJ)|((with_reducible refine gate_builtin (b:=.append) (xs:=#[.tmp 21,.tmp 22]) rfl ?_);at_builtin;refine Kd.R_append_rows (Kd.int .u8) (w0:=w) w.heap.size rfl (.tmp 21) (.tmp 22) 22 5 (.int .u8 0) 1 rfl Tryz.underlying22 info5 rfl (by decide) (by omega) bK aN aC _ _ _ (fun k_=>some k_≠(.slice bN aC.length bP:Value).ownBlock) (fun _=>False) rfl rfl ?aO ?aR (fun _ _ h=>h) (fun _ h=>h.elim) ?aF ?aB ?aS ?aL ?_;(case aR=>repeat(first|exact(Kd.R_reads' HO_3.out).2.2|(with_reducible refine R' ?_ _)|(with_reducible refine S' ?_ _)|(with_reducible refine T' ?_)));(case aB=>exact(qK0 HB.out));(case aF=>exact(fun k_ hk=>Kd.fresh' (Kd.R_lt (qR HO_3.out)) k_ hk));(case aO=>exact(by(with_reducible repeat(first|apply B'|apply C'|apply D'));exact Q' aV.out (fun _ hk=>hk.2)));(case aS=>exact(V' (qK0 HB.out)));(case aL=>have:=aX.out;omega);intro bZ cH ho hb hg hat;rw[← aW.out]at ho;have n0_:=A' (Kd.R_after (ok:=(fun _=>True)) (qR HO_3.out) hg hat);have n1_:=A' (hb);have n2_:=A' (ho);clear HO_3;clear HB;clear aV;have HO_3:=n0_;have HB:=n1_;have bE:=n2_;clear n0_ n1_ n2_;clear ho hb hg hat))
      go_roundg k1
      case measure=>have:=bH.out;omega
      case rel=>exact⟨(bF),(wrap64 (Int.tdiv aA 10)),qS,H',⟨by have:=bH.out;omega⟩,⟨by(with_reducible repeat(first|apply B'|apply C'|apply D'));exact Q' bE.out (fun _ hk=>trivial)⟩,⟨qK0 HB.out⟩⟩
     ·rw[if_neg c19]at H;exact absurd H (by simp)
/-! ### spec_l07Text: function 46 -/
def spec_l07Text.l0:Nat→List (S51)→ByteArray→Int→Option (ByteArray)
 |0,_,_,_=>none
 |k+1,x0,x3,x4=>if x4<(x0.length:Int)then(if x4 > 0 then(if x3.size+1≤9223372036854775807 then(if 0≤x4 then(if((rd_T51 x0 x4).f0)=0 then(if(x3 ++ (⟨#[32]⟩:ByteArray)).size+1≤9223372036854775807 then((spec_l01Dec.f k ((rd_T51 x0 x4).f1)).bind fun aD=>(if((x3 ++ (⟨#[32]⟩:ByteArray)) ++ (⟨#[102]⟩:ByteArray)).size+aD.size≤9223372036854775807 then(spec_l07Text.l0 k x0 (((x3 ++ (⟨#[32]⟩:ByteArray)) ++ (⟨#[102]⟩:ByteArray)) ++ aD) (wrap64 (x4+1)))else(none)))else(none))else(if(x3 ++ (⟨#[32]⟩:ByteArray)).size+1≤9223372036854775807 then((spec_l01Dec.f k ((rd_T51 x0 x4).f1)).bind fun aB=>(if((x3 ++ (⟨#[32]⟩:ByteArray)) ++ (⟨#[109]⟩:ByteArray)).size+aB.size≤9223372036854775807 then(spec_l07Text.l0 k x0 (((x3 ++ (⟨#[32]⟩:ByteArray)) ++ (⟨#[109]⟩:ByteArray)) ++ aB) (wrap64 (x4+1)))else(none)))else(none)))else(none))else(none))else(if 0≤x4 then(if((rd_T51 x0 x4).f0)=0 then(if x3.size+1≤9223372036854775807 then((spec_l01Dec.f k ((rd_T51 x0 x4).f1)).bind fun aC=>(if(x3 ++ (⟨#[102]⟩:ByteArray)).size+aC.size≤9223372036854775807 then(spec_l07Text.l0 k x0 ((x3 ++ (⟨#[102]⟩:ByteArray)) ++ aC) (wrap64 (x4+1)))else(none)))else(none))else(if x3.size+1≤9223372036854775807 then((spec_l01Dec.f k ((rd_T51 x0 x4).f1)).bind fun aA=>(if(x3 ++ (⟨#[109]⟩:ByteArray)).size+aA.size≤9223372036854775807 then(spec_l07Text.l0 k x0 ((x3 ++ (⟨#[109]⟩:ByteArray)) ++ aA) (wrap64 (x4+1)))else(none)))else(none)))else(none)))else(some x3)
def spec_l07Text.f (k:Nat) (l0:List (S51)):Option (ByteArray):=spec_l07Text.l0 k l0 (⟨#[]⟩:ByteArray) 0
theorem spec_l07Text.mono_l: ∀k,(∀y0 y1 y2,LeO (spec_l07Text.l0 k y0 y1 y2) (spec_l07Text.l0 (k+1) y0 y1 y2))
 |0=>fun _ _ _ r h=>by simp[spec_l07Text.l0]at h
 |k+1=>by
  have aA:=spec_l07Text.mono_l k
  ·intro y0 y1 y2
   unfold spec_l07Text.l0
   repeat' first
   |(with_reducible exact aA _ _ _)
   |(with_reducible exact spec_l01Dec.mono _ _)
   |(with_reducible exact LeO.refl _)
   |(with_reducible exact LeO.none _)
   |(with_reducible refine LeO.ite ?_ ?_)
   |(with_reducible refine LeO.bind ?_ (fun _=>?_))
   |exact LeO.none _
   |refine LeO.ite ?_ ?_
   |refine LeO.bind ?_ (fun _=>?_)
theorem spec_l07Text.mono: ∀a0 k,LeO (spec_l07Text.f k a0) (spec_l07Text.f (k+1) a0):=by
 intro a0 k
 have aA:=spec_l07Text.mono_l k
 unfold spec_l07Text.f
 repeat' first
   |(with_reducible exact aA _ _ _)
   |(with_reducible exact spec_l01Dec.mono _ _)
   |(with_reducible exact LeO.refl _)
   |(with_reducible exact LeO.none _)
   |(with_reducible refine LeO.ite ?_ ?_)
   |(with_reducible refine LeO.bind ?_ (fun _=>?_))
   |exact LeO.none _
   |refine LeO.ite ?_ ?_
   |refine LeO.bind ?_ (fun _=>?_)
set_option maxHeartbeats 8000000 in
set_option maxRecDepth 100000 in
theorem spec_l07Text.calls (k:Nat) (A0:Option Addr) (c0:Nat) (l0:List (S51)) (r:ByteArray) (w:World) (bW:Kd.C k51 w A0 l0.length l0) (bV:l0.length≤c0) (h:spec_l07Text.f k l0=some r):
  Calls Tryz.prog 46 #[.slice A0 l0.length c0] w fun e w'=>e= .returned (.string r)∧Below w.heap.size w w':=by
 have aZ:=A' bW;have cC:=A' bV;clear bW bV;have HB:=A' (Below.refl w.heap.size w);have H:(spec_l07Text.l0 k l0 (⟨#[]⟩:ByteArray) 0)=some r:=h;clear h;have H':=A' H;clear H;go_enter Tryz.func46,Tryz.ntmps46;go_wp2
 go_loopg [3,4] k (fun kq v3 v4 w'=>∃(aB:ByteArray) (aA:Int),v3= .string aB∧v4= .int .i64 aA∧Aside0 (spec_l07Text.l0 kq l0 aB aA=some r)∧Aside0 (kq≤k)∧Aside0 (Below w.heap.size w w'))
 case atStart=>exact⟨((⟨#[]⟩:ByteArray)),(0),qS,qS,H',⟨Nat.le_refl _⟩,⟨qK0 HB.out⟩⟩
 case round=>
  clear H';obtain⟨aB,aA,rfl,rfl,HA,aY,HB⟩:=hrel
  cases gk with
  |zero=>exact absurd HA.out (by simp[spec_l07Text.l0])
  |succ k1=>
   have H:=HA.out;clear HA;simp only[spec_l07Text.l0]at H
   by_cases c2:aA<(l0.length:Int)
   ·rw[if_pos c2]at H;have c2b0:decide (aA<(l0.length:Int))=true:=dT' c2;clear c2
    by_cases c3:aA > 0
    ·rw[if_pos c3]at H;have c3b0:decide (0<aA)=true:=dT' c3;clear c3
     by_cases c4:aB.size+1≤9223372036854775807
     ·rw[if_pos c4]at H;have c4b0:=eq_true c4;have c4b1:decide (aB.size+1≤9223372036854775807)=true:=dT' c4;try have c4b2:(9223372036854775807<aB.size+1)=False:=eq_false (Nat.not_lt.2 c4)
      by_cases c5:0≤aA
      ·rw[if_pos c5]at H;have c5b0:decide (0≤aA)=true:=dT' c5;clear c5
       by_cases c6:((rd_T51 l0 aA).f0)=0
       ·rw[if_pos c6]at H;have c6b0:(((rd_T51 l0 aA).f0) == 0)=true:=beq_iff_eq.mpr c6;have c6b1:(((rd_T51 l0 aA).f0) != 0)=false:=bne_eq_false_iff_eq.mpr c6;clear c6
        by_cases c7:(aB ++ (⟨#[32]⟩:ByteArray)).size+1≤9223372036854775807
        ·rw[if_pos c7]at H;have c7b0:=eq_true c7;have c7b1:decide ((aB ++ (⟨#[32]⟩:ByteArray)).size+1≤9223372036854775807)=true:=dT' c7;try have c7b2:(9223372036854775807<(aB ++ (⟨#[32]⟩:ByteArray)).size+1)=False:=eq_false (Nat.not_lt.2 c7)
         try have c7b7:(9223372036854775807<aB.size+1+1)=False:=eq_false (Nat.not_lt.2 (by have h_:=c7;simp only[ByteArray.size_append]at h_;exact h_))
         replace H:=Option.bind_eq_some_iff.mp H;obtain⟨aI,bX,H⟩:=H;replace H:(if((aB ++ (⟨#[32]⟩:ByteArray)) ++ (⟨#[102]⟩:ByteArray)).size+aI.size≤9223372036854775807 then(spec_l07Text.l0 k1 l0 (((aB ++ (⟨#[32]⟩:ByteArray)) ++ (⟨#[102]⟩:ByteArray)) ++ aI) (wrap64 (aA+1)))else(none))=some r:=H;have A8:=A' bX;clear bX
         by_cases c9:((aB ++ (⟨#[32]⟩:ByteArray)) ++ (⟨#[102]⟩:ByteArray)).size+aI.size≤9223372036854775807
         ·rw[if_pos c9]at H;have c9b0:=eq_true c9;have c9b1:decide (((aB ++ (⟨#[32]⟩:ByteArray)) ++ (⟨#[102]⟩:ByteArray)).size+aI.size≤9223372036854775807)=true:=dT' c9;try have c9b2:(9223372036854775807<((aB ++ (⟨#[32]⟩:ByteArray)) ++ (⟨#[102]⟩:ByteArray)).size+aI.size)=False:=eq_false (Nat.not_lt.2 c9)
          try have c9b7:(9223372036854775807<aB.size+1+1+aI.size)=False:=eq_false (Nat.not_lt.2 (by have h_:=c9;simp only[ByteArray.size_append]at h_;exact h_))
          have H':=A' H;clear H;have aL:0≤(aA:Int):=oD' qA;have aM:aA<(l0.length:Int):=oD' qA;obtain⟨aX,bH,aD,aE⟩:=at_T51 aZ.out aA aL aM
          cases bH
          try replace aD:=qC HB.out aD
          try replace aE:=qC HB.out aE
          replace aL:=eq_true aL;replace aM:=eq_true aM;have bF:0≤(aA:Int):=oD' qA;have bB:aA<(l0.length:Int):=oD' qA;obtain⟨bL,bR,aS,aR⟩:=at_T51 aZ.out aA bF bB;obtain rfl:aX=bL:=(by injection bR)
          try replace aS:=qC HB.out aS
          try replace aR:=qC HB.out aR
          replace bF:=eq_true bF;replace bB:=eq_true bB;go_wp2_with (first|((with_reducible refine gate_callee (f:=65) rfl ?_);refine goesL_ (some 31) rfl rfl Tryz.func65 (by kernel_rfl) rfl #[.int .i64 ((rd_T51 l0 aA).f1)] rfl (by(try simp only[List.map_toArray,List.map_cons,List.map_nil]);first|done|rfl|(simp only[List.length_drop,List.length_take];rfl)) ?_;(with_reducible refine(spec_l01Dec.calls k1 ((rd_T51 l0 aA).f1) aI _ A8.out).mono ?_);rintro e cE ⟨rfl,hb⟩;refine⟨_,rfl,?_⟩;replace HB:=A' (W' (qK0 HB.out) hb);(try clear hb);(try clear hb2);(try clear hk);(try clear hi)))
          go_roundg k1
          case measure=>have:=aY.out;omega
          case rel=>exact⟨(((aB ++ (⟨#[32]⟩:ByteArray)) ++ (⟨#[102]⟩:ByteArray)) ++ aI),(wrap64 (aA+1)),qS,qS,H',⟨by have:=aY.out;omega⟩,⟨qK0 HB.out⟩⟩
         ·rw[if_neg c9]at H;exact absurd H (by simp)
        ·rw[if_neg c7]at H;exact absurd H (by simp)
       ·rw[if_neg c6]at H;have c6b0:(((rd_T51 l0 aA).f0) == 0)=false:=beq_eq_false_iff_ne.mpr c6;have c6b1:(((rd_T51 l0 aA).f0) != 0)=true:=bne_iff_ne.mpr c6
        by_cases c11:(aB ++ (⟨#[32]⟩:ByteArray)).size+1≤9223372036854775807
        ·rw[if_pos c11]at H;have c11b0:=eq_true c11;have c11b1:decide ((aB ++ (⟨#[32]⟩:ByteArray)).size+1≤9223372036854775807)=true:=dT' c11;try have c11b2:(9223372036854775807<(aB ++ (⟨#[32]⟩:ByteArray)).size+1)=False:=eq_false (Nat.not_lt.2 c11)
         try have c11b7:(9223372036854775807<aB.size+1+1)=False:=eq_false (Nat.not_lt.2 (by have h_:=c11;simp only[ByteArray.size_append]at h_;exact h_))
         replace H:=Option.bind_eq_some_iff.mp H;obtain⟨aG,bP,H⟩:=H;replace H:(if((aB ++ (⟨#[32]⟩:ByteArray)) ++ (⟨#[109]⟩:ByteArray)).size+aG.size≤9223372036854775807 then(spec_l07Text.l0 k1 l0 (((aB ++ (⟨#[32]⟩:ByteArray)) ++ (⟨#[109]⟩:ByteArray)) ++ aG) (wrap64 (aA+1)))else(none))=some r:=H;have cA:=A' bP;clear bP
         by_cases c13:((aB ++ (⟨#[32]⟩:ByteArray)) ++ (⟨#[109]⟩:ByteArray)).size+aG.size≤9223372036854775807
         ·rw[if_pos c13]at H;have c13b0:=eq_true c13;have c13b1:decide (((aB ++ (⟨#[32]⟩:ByteArray)) ++ (⟨#[109]⟩:ByteArray)).size+aG.size≤9223372036854775807)=true:=dT' c13;try have c13b2:(9223372036854775807<((aB ++ (⟨#[32]⟩:ByteArray)) ++ (⟨#[109]⟩:ByteArray)).size+aG.size)=False:=eq_false (Nat.not_lt.2 c13)
          try have c13b7:(9223372036854775807<aB.size+1+1+aG.size)=False:=eq_false (Nat.not_lt.2 (by have h_:=c13;simp only[ByteArray.size_append]at h_;exact h_))
          have H':=A' H;clear H;have aL:0≤(aA:Int):=oD' qA;have aM:aA<(l0.length:Int):=oD' qA;obtain⟨aX,bH,aD,aE⟩:=at_T51 aZ.out aA aL aM
          cases bH
          try replace aD:=qC HB.out aD
          try replace aE:=qC HB.out aE
          replace aL:=eq_true aL;replace aM:=eq_true aM;have bC:0≤(aA:Int):=oD' qA;have bG:aA<(l0.length:Int):=oD' qA;obtain⟨bO,bS,aO,aP⟩:=at_T51 aZ.out aA bC bG;obtain rfl:aX=bO:=(by injection bS)
          try replace aO:=qC HB.out aO
          try replace aP:=qC HB.out aP
          replace bC:=eq_true bC;replace bG:=eq_true bG;go_wp2_with (first|((with_reducible refine gate_callee (f:=65) rfl ?_);refine goesL_ (some 31) rfl rfl Tryz.func65 (by kernel_rfl) rfl #[.int .i64 ((rd_T51 l0 aA).f1)] rfl (by(try simp only[List.map_toArray,List.map_cons,List.map_nil]);first|done|rfl|(simp only[List.length_drop,List.length_take];rfl)) ?_;(with_reducible refine(spec_l01Dec.calls k1 ((rd_T51 l0 aA).f1) aG _ cA.out).mono ?_);rintro e cG ⟨rfl,hb⟩;refine⟨_,rfl,?_⟩;replace HB:=A' (W' (qK0 HB.out) hb);(try clear hb);(try clear hb2);(try clear hk);(try clear hi)))
          go_roundg k1
          case measure=>have:=aY.out;omega
          case rel=>exact⟨(((aB ++ (⟨#[32]⟩:ByteArray)) ++ (⟨#[109]⟩:ByteArray)) ++ aG),(wrap64 (aA+1)),qS,qS,H',⟨by have:=aY.out;omega⟩,⟨qK0 HB.out⟩⟩
         ·rw[if_neg c13]at H;exact absurd H (by simp)
        ·rw[if_neg c11]at H;exact absurd H (by simp)
      ·rw[if_neg c5]at H;exact absurd H (by simp)
     ·rw[if_neg c4]at H;exact absurd H (by simp)
    ·rw[if_neg c3]at H;have c3b0:decide (0<aA)=false:=dF' c3;clear c3
     by_cases c15:0≤aA
     ·rw[if_pos c15]at H;have c15b0:decide (0≤aA)=true:=dT' c15;clear c15
      by_cases c16:((rd_T51 l0 aA).f0)=0
      ·rw[if_pos c16]at H;have c16b0:(((rd_T51 l0 aA).f0) == 0)=true:=beq_iff_eq.mpr c16;have c16b1:(((rd_T51 l0 aA).f0) != 0)=false:=bne_eq_false_iff_eq.mpr c16;clear c16
       by_cases c17:aB.size+1≤9223372036854775807
       ·rw[if_pos c17]at H;have c17b0:=eq_true c17;have c17b1:decide (aB.size+1≤9223372036854775807)=true:=dT' c17;try have c17b2:(9223372036854775807<aB.size+1)=False:=eq_false (Nat.not_lt.2 c17)
        replace H:=Option.bind_eq_some_iff.mp H;obtain⟨aH,bQ,H⟩:=H;replace H:(if(aB ++ (⟨#[102]⟩:ByteArray)).size+aH.size≤9223372036854775807 then(spec_l07Text.l0 k1 l0 ((aB ++ (⟨#[102]⟩:ByteArray)) ++ aH) (wrap64 (aA+1)))else(none))=some r:=H;have bZ:=A' bQ;clear bQ
        by_cases c19:(aB ++ (⟨#[102]⟩:ByteArray)).size+aH.size≤9223372036854775807
        ·rw[if_pos c19]at H;have c19b0:=eq_true c19;have c19b1:decide ((aB ++ (⟨#[102]⟩:ByteArray)).size+aH.size≤9223372036854775807)=true:=dT' c19;try have c19b2:(9223372036854775807<(aB ++ (⟨#[102]⟩:ByteArray)).size+aH.size)=False:=eq_false (Nat.not_lt.2 c19)
         try have c19b7:(9223372036854775807<aB.size+1+aH.size)=False:=eq_false (Nat.not_lt.2 (by have h_:=c19;simp only[ByteArray.size_append]at h_;exact h_))
         have H':=A' H;clear H;have aK:0≤(aA:Int):=oD' qA;have aN:aA<(l0.length:Int):=oD' qA;obtain⟨aW,bI,aC,aF⟩:=at_T51 aZ.out aA aK aN
         cases bI
         try replace aC:=qC HB.out aC
         try replace aF:=qC HB.out aF
         replace aK:=eq_true aK;replace aN:=eq_true aN;have bE:0≤(aA:Int):=oD' qA;have bJ:aA<(l0.length:Int):=oD' qA;obtain⟨bM,bT,aQ,aU⟩:=at_T51 aZ.out aA bE bJ;obtain rfl:aW=bM:=(by injection bT)
         try replace aQ:=qC HB.out aQ
         try replace aU:=qC HB.out aU
         replace bE:=eq_true bE;replace bJ:=eq_true bJ;go_wp2_with (first|((with_reducible refine gate_callee (f:=65) rfl ?_);refine goesL_ (some 31) rfl rfl Tryz.func65 (by kernel_rfl) rfl #[.int .i64 ((rd_T51 l0 aA).f1)] rfl (by(try simp only[List.map_toArray,List.map_cons,List.map_nil]);first|done|rfl|(simp only[List.length_drop,List.length_take];rfl)) ?_;(with_reducible refine(spec_l01Dec.calls k1 ((rd_T51 l0 aA).f1) aH _ bZ.out).mono ?_);rintro e cD ⟨rfl,hb⟩;refine⟨_,rfl,?_⟩;replace HB:=A' (W' (qK0 HB.out) hb);(try clear hb);(try clear hb2);(try clear hk);(try clear hi)))
         go_roundg k1
         case measure=>have:=aY.out;omega
         case rel=>exact⟨((aB ++ (⟨#[102]⟩:ByteArray)) ++ aH),(wrap64 (aA+1)),qS,qS,H',⟨by have:=aY.out;omega⟩,⟨qK0 HB.out⟩⟩
        ·rw[if_neg c19]at H;exact absurd H (by simp)
       ·rw[if_neg c17]at H;exact absurd H (by simp)
      ·rw[if_neg c16]at H;have c16b0:(((rd_T51 l0 aA).f0) == 0)=false:=beq_eq_false_iff_ne.mpr c16;have c16b1:(((rd_T51 l0 aA).f0) != 0)=true:=bne_iff_ne.mpr c16
       by_cases c21:aB.size+1≤9223372036854775807
       ·rw[if_pos c21]at H;have c21b0:=eq_true c21;have c21b1:decide (aB.size+1≤9223372036854775807)=true:=dT' c21;try have c21b2:(9223372036854775807<aB.size+1)=False:=eq_false (Nat.not_lt.2 c21)
        replace H:=Option.bind_eq_some_iff.mp H;obtain⟨aJ,bN,H⟩:=H;replace H:(if(aB ++ (⟨#[109]⟩:ByteArray)).size+aJ.size≤9223372036854775807 then(spec_l07Text.l0 k1 l0 ((aB ++ (⟨#[109]⟩:ByteArray)) ++ aJ) (wrap64 (aA+1)))else(none))=some r:=H;have bY:=A' bN;clear bN
        by_cases c23:(aB ++ (⟨#[109]⟩:ByteArray)).size+aJ.size≤9223372036854775807
        ·rw[if_pos c23]at H;have c23b0:=eq_true c23;have c23b1:decide ((aB ++ (⟨#[109]⟩:ByteArray)).size+aJ.size≤9223372036854775807)=true:=dT' c23;try have c23b2:(9223372036854775807<(aB ++ (⟨#[109]⟩:ByteArray)).size+aJ.size)=False:=eq_false (Nat.not_lt.2 c23)
         try have c23b7:(9223372036854775807<aB.size+1+aJ.size)=False:=eq_false (Nat.not_lt.2 (by have h_:=c23;simp only[ByteArray.size_append]at h_;exact h_))
         have H':=A' H;clear H;have aK:0≤(aA:Int):=oD' qA;have aN:aA<(l0.length:Int):=oD' qA;obtain⟨aW,bI,aC,aF⟩:=at_T51 aZ.out aA aK aN
         cases bI
         try replace aC:=qC HB.out aC
         try replace aF:=qC HB.out aF
         replace aK:=eq_true aK;replace aN:=eq_true aN;have bA:0≤(aA:Int):=oD' qA;have bD:aA<(l0.length:Int):=oD' qA;obtain⟨bK,bU,aT,aV⟩:=at_T51 aZ.out aA bA bD;obtain rfl:aW=bK:=(by injection bU)
         try replace aT:=qC HB.out aT
         try replace aV:=qC HB.out aV
         replace bA:=eq_true bA;replace bD:=eq_true bD;go_wp2_with (first|((with_reducible refine gate_callee (f:=65) rfl ?_);refine goesL_ (some 31) rfl rfl Tryz.func65 (by kernel_rfl) rfl #[.int .i64 ((rd_T51 l0 aA).f1)] rfl (by(try simp only[List.map_toArray,List.map_cons,List.map_nil]);first|done|rfl|(simp only[List.length_drop,List.length_take];rfl)) ?_;(with_reducible refine(spec_l01Dec.calls k1 ((rd_T51 l0 aA).f1) aJ _ bY.out).mono ?_);rintro e cF ⟨rfl,hb⟩;refine⟨_,rfl,?_⟩;replace HB:=A' (W' (qK0 HB.out) hb);(try clear hb);(try clear hb2);(try clear hk);(try clear hi)))
         go_roundg k1
         case measure=>have:=aY.out;omega
         case rel=>exact⟨((aB ++ (⟨#[109]⟩:ByteArray)) ++ aJ),(wrap64 (aA+1)),qS,qS,H',⟨by have:=aY.out;omega⟩,⟨qK0 HB.out⟩⟩
        ·rw[if_neg c23]at H;exact absurd H (by simp)
       ·rw[if_neg c21]at H;exact absurd H (by simp)
     ·rw[if_neg c15]at H;exact absurd H (by simp)
   ·rw[if_neg c2]at H;have c2b0:decide (aA<(l0.length:Int))=false:=dF' c2;clear c2;obtain rfl:=Option.some.inj H;go_wp2;go_ret;exact⟨qE,qK0 HB.out⟩
/-! ### spec_l00Src_text: function 50 -/
def spec_l00Src_text.f (aC:List Int) (aB:Int) (aD:Int) (l1:List ByteArray):Option (ByteArray×Int×Int):=(spec_l00Src_pick.f aC aB aD (l1.length:Int)).bind fun aA=>(if 0≤aA.1 then(if aA.1<(l1.length:Int)then(some (rdOf ByteArray.empty l1 aA.1,aA.2.1,aA.2.2))else(none))else(none))
theorem qZ7_0 {p q:Prop} (h:q) (f:q→p:=by intro h_;repeat(first|(with_reducible first|exact h_|apply KeepBut.set_|apply keep_drewN|apply keep_drew|apply keep_alloc)|exact h_)):p:=f h
theorem qZ7_1 {p q:Prop} (h:q) (f:q→p:=by intro h_;repeat(first|(with_reducible first|exact h_|apply IsS100.alloc|apply IsS100.drewN|apply IsS100.drew|apply IsS100.set_1|apply IsS100.set_2)|exact h_)):p:=f h
theorem qZ7_2 {p q r0:Prop} (h:q) (g0:r0) (f:q→r0→p:=by intro h_ g0_;repeat(first|(with_reducible first|exact h_|apply K'|apply F'|apply J'|refine E' ?_ g0_)|exact h_)):p:=f h g0
set_option maxHeartbeats 8000000 in
set_option maxRecDepth 100000 in
theorem spec_l00Src_text.calls (g:Nat) (aD:List Int) (aE:Int) (aF:Int) (A1:Option Addr) (c1:Nat) (l1:List ByteArray) (r1:ByteArray) (r2:Int) (r3:Int) (w0 w:World) (hI:IsS100 w0 w g aD aE aF) (hB:Below w0.heap.size w0 w) (aQ:Kd.C Kd.string w A1 l1.length l1) (aR:l1.length≤c1) (aP: ∀ad,A1=some ad→0<l1.length→ad.block≠g) (h:spec_l00Src_text.f aD aE aF l1=some (r1,r2,r3)):
  Calls Tryz.prog 50 #[.pointer (some ⟨g,0,none⟩),.slice A1 l1.length c1] w fun e w'=>e= .returned (.string r1)∧IsS100 w0 w' g aD r2 r3∧Below w0.heap.size w0 w'∧KeepBut w w' g none:=by
 have aT:=A' aQ;have aV:=A' aR;clear aQ aR;have aI:=A' hI;have HK:=A' (KeepBut.refl w g none);have HL:=A' hB.size;clear hI;have aU:=A' hB.size;have HB:=A' hB;clear hB;have H:((spec_l00Src_pick.f aD aE aF (l1.length:Int)).bind fun aB=>(if 0≤aB.1 then(if aB.1<(l1.length:Int)then(some (rdOf ByteArray.empty l1 aB.1,aB.2.1,aB.2.2))else(none))else(none)))=some (r1,r2,r3):=h;clear h;replace H:=Option.bind_eq_some_iff.mp H;obtain⟨⟨aA,aL,aJ⟩,aS,H⟩:=H;replace H:(if 0≤aA then(if aA<(l1.length:Int)then(some (rdOf ByteArray.empty l1 aA,aL,aJ))else(none))else(none))=some (r1,r2,r3):=H;have A3:=A' aS;clear aS
 by_cases c4:0≤aA
 ·rw[if_pos c4]at H;have c4b0:decide (0≤aA)=true:=dT' c4;clear c4
  by_cases c5:aA<(l1.length:Int)
  ·rw[if_pos c5]at H;have c5b0:decide (aA<(l1.length:Int))=true:=dT' c5;clear c5;simp only[Option.some.injEq,Prod.mk.injEq]at H;obtain⟨rfl,rfl,rfl⟩:=H;go_enter Tryz.func50,Tryz.ntmps50;go_wp2_with (first|((with_reducible refine gate_callee (f:=48) rfl ?_);refine goesL_ (some 9) rfl rfl Tryz.func48 (by kernel_rfl) rfl #[.pointer (some ⟨g,0,none⟩),.int .i64 (l1.length:Int)] rfl (by(try simp only[List.map_toArray,List.map_cons,List.map_nil]);first|done|rfl|(simp only[List.length_drop,List.length_take];rfl)) ?_;(with_reducible refine(spec_l00Src_pick.calls g aD aE aF (l1.length:Int) aA aL aJ w0 _ ?aM ?aK A3.out).mono ?_);(case aM=>repeat(first|(with_reducible first|exact aI.out|apply IsS100.alloc|apply IsS100.drewN|apply IsS100.drew|apply IsS100.set_1|apply IsS100.set_2)|exact aI.out));(case aK=>repeat(first|(with_reducible first|exact HB.out|apply K'|apply F'|apply J'|refine E' ?_ (IsS100.ge aI.out))|exact HB.out));rintro e w6 ⟨rfl,hi,hb,hk⟩;refine⟨_,rfl,?_⟩;replace HK:=A' (KeepBut.trans (qZ7_0 HK.out) hk (.inl rfl));replace HB:=A' (hb);replace aI:=A' (hi);(try clear hb);(try clear hb2);(try clear hk);(try clear hi);have aH:0≤(aA:Int):=oD' qA;have aG:aA<(l1.length:Int):=oD' qA;obtain⟨aN,aO,aC⟩:=Kd.at_string aT.out aA aH aG;cases aO;replace aC:=keep_cell HK.out aC (by first|(rw[add_block];exact aP _ rfl (by omega))|exact aP _ rfl (by omega)|exact aP aN rfl (by omega));replace aH:=eq_true aH;replace aG:=eq_true aG));go_ret;exact⟨qE,qZ7_1 aI.out,qZ7_2 HB.out (IsS100.ge aI.out),qZ7_0 HK.out⟩
  ·rw[if_neg c5]at H;exact absurd H (by simp)
 ·rw[if_neg c4]at H;exact absurd H (by simp)
/-! ### spec_l01Spoil: function 49 -/
def spec_l01Spoil.f (aE:List Int) (aF:Int) (aG:Int) (a1:ByteArray):Option (ByteArray×Int×Int):=(spec_l00Src_pick.f aE aF aG 5).bind fun aB=>(if aB.1=0 then((spec_l00Src_pick.f aE aB.2.1 aB.2.2 (wrap64 ((a1.size:Int)+1))).bind fun aC=>(if 0≤aC.1 then(if aC.1≤(a1.size:Int)then((spec_l00Src_text.f aE aC.2.1 aC.2.2 (([(⟨#[32]⟩:ByteArray),(⟨#[48]⟩:ByteArray),(⟨#[45]⟩:ByteArray),(⟨#[120]⟩:ByteArray),(⟨#[49]⟩:ByteArray),(⟨#[57]⟩:ByteArray),(⟨#[46]⟩:ByteArray)]:List ByteArray))).bind fun aD=>(if(a1.extract 0 (aC.1:Int).toNat).size+aD.1.size≤9223372036854775807 then(if((a1.extract 0 (aC.1:Int).toNat) ++ aD.1).size+(a1.extract (aC.1:Int).toNat a1.size).size≤9223372036854775807 then(some (((a1.extract 0 (aC.1:Int).toNat) ++ aD.1) ++ (a1.extract (aC.1:Int).toNat a1.size),aD.2.1,aD.2.2))else(none))else(none)))else(none))else(none)))else(if aB.1=1 then(if a1.toList=([]:List UInt8)then(some (a1,aB.2.1,aB.2.2))else((spec_l00Src_pick.f aE aB.2.1 aB.2.2 (a1.size:Int)).bind fun aA=>(if 0≤aA.1 then(if aA.1≤(a1.size:Int)then(if 0≤(wrap64 (aA.1+1))then(if(wrap64 (aA.1+1))≤(a1.size:Int)then(if(a1.extract 0 (aA.1:Int).toNat).size+(a1.extract ((wrap64 (aA.1+1)):Int).toNat a1.size).size≤9223372036854775807 then(some ((a1.extract 0 (aA.1:Int).toNat) ++ (a1.extract ((wrap64 (aA.1+1)):Int).toNat a1.size),aA.2.1,aA.2.2))else(none))else(none))else(none))else(none))else(none))))else(some (a1,aB.2.1,aB.2.2))))
def spec_l01Spoil.T4:Bool×List (List Nat×List Nat):=(true,[([],[]),([],[]),([0,1],[0,1]),([],[]),([],[]),([3,4],[3,4]),([2,5],[2,5]),([],[]),([],[]),([7,8],[7,8]),([6,9],[6,9]),([10,5,0,1,2,3,4,5,6,7,8,9,10],[0,7,10])])
def spec_l01Spoil.B4:List Nat:=[0,0,3,0,0,24,63,0,0,384,1023,2047]
theorem spec_l01Spoil.tab4:rtab .any (opsOf Tryz.f49 4)=spec_l01Spoil.T4:=by kernel_rfl
theorem spec_l01Spoil.bits4:waitsOk spec_l01Spoil.T4.2 spec_l01Spoil.B4=true:=by kernel_rfl
def spec_l01Spoil.T8:Bool×List (List Nat×List Nat):=(true,[([],[]),([],[]),([0,1],[0,1]),([],[]),([],[]),([4],[4]),([3,5],[3,5]),([2,6],[2,6]),([7,0,1,2,3,4,5,6,7],[0,3,7])])
def spec_l01Spoil.B8:List Nat:=[0,0,3,0,0,16,56,127,255]
theorem spec_l01Spoil.tab8:rtab .any (opsOf Tryz.f49 8)=spec_l01Spoil.T8:=by kernel_rfl
theorem spec_l01Spoil.bits8:waitsOk spec_l01Spoil.T8.2 spec_l01Spoil.B8=true:=by kernel_rfl
set_option maxHeartbeats 8000000 in
set_option maxRecDepth 100000 in
theorem spec_l01Spoil.calls (g:Nat) (aG:List Int) (aT:Int) (aS:Int) (a1:ByteArray) (r1:ByteArray) (r2:Int) (r3:Int) (w0 w:World) (hI:IsS100 w0 w g aG aT aS) (hB:Below w0.heap.size w0 w) (h:spec_l01Spoil.f aG aT aS a1=some (r1,r2,r3)):
  Calls Tryz.prog 49 #[.pointer (some ⟨g,0,none⟩),.string a1] w fun e w'=>e= .returned (.string r1)∧IsS100 w0 w' g aG r2 r3∧Below w0.heap.size w0 w'∧KeepBut w w' g none:=by
 have aE:=A' hI;have HK:=A' (KeepBut.refl w g none);have HL:=A' hB.size;clear hI;have bT:=A' hB.size;have HB:=A' hB;clear hB;have H:((spec_l00Src_pick.f aG aT aS 5).bind fun aK=>(if aK.1=0 then((spec_l00Src_pick.f aG aK.2.1 aK.2.2 (wrap64 ((a1.size:Int)+1))).bind fun aD=>(if 0≤aD.1 then(if aD.1≤(a1.size:Int)then((spec_l00Src_text.f aG aD.2.1 aD.2.2 (([(⟨#[32]⟩:ByteArray),(⟨#[48]⟩:ByteArray),(⟨#[45]⟩:ByteArray),(⟨#[120]⟩:ByteArray),(⟨#[49]⟩:ByteArray),(⟨#[57]⟩:ByteArray),(⟨#[46]⟩:ByteArray)]:List ByteArray))).bind fun aB=>(if(a1.extract 0 (aD.1:Int).toNat).size+aB.1.size≤9223372036854775807 then(if((a1.extract 0 (aD.1:Int).toNat) ++ aB.1).size+(a1.extract (aD.1:Int).toNat a1.size).size≤9223372036854775807 then(some (((a1.extract 0 (aD.1:Int).toNat) ++ aB.1) ++ (a1.extract (aD.1:Int).toNat a1.size),aB.2.1,aB.2.2))else(none))else(none)))else(none))else(none)))else(if aK.1=1 then(if a1.toList=([]:List UInt8)then(some (a1,aK.2.1,aK.2.2))else((spec_l00Src_pick.f aG aK.2.1 aK.2.2 (a1.size:Int)).bind fun aC=>(if 0≤aC.1 then(if aC.1≤(a1.size:Int)then(if 0≤(wrap64 (aC.1+1))then(if(wrap64 (aC.1+1))≤(a1.size:Int)then(if(a1.extract 0 (aC.1:Int).toNat).size+(a1.extract ((wrap64 (aC.1+1)):Int).toNat a1.size).size≤9223372036854775807 then(some ((a1.extract 0 (aC.1:Int).toNat) ++ (a1.extract ((wrap64 (aC.1+1)):Int).toNat a1.size),aC.2.1,aC.2.2))else(none))else(none))else(none))else(none))else(none))))else(some (a1,aK.2.1,aK.2.2)))))=some (r1,r2,r3):=h;clear h;replace H:=Option.bind_eq_some_iff.mp H;obtain⟨⟨aJ,aN,aO⟩,bK,H⟩:=H;replace H:(if aJ=0 then((spec_l00Src_pick.f aG aN aO (wrap64 ((a1.size:Int)+1))).bind fun aD=>(if 0≤aD.1 then(if aD.1≤(a1.size:Int)then((spec_l00Src_text.f aG aD.2.1 aD.2.2 (([(⟨#[32]⟩:ByteArray),(⟨#[48]⟩:ByteArray),(⟨#[45]⟩:ByteArray),(⟨#[120]⟩:ByteArray),(⟨#[49]⟩:ByteArray),(⟨#[57]⟩:ByteArray),(⟨#[46]⟩:ByteArray)]:List ByteArray))).bind fun aB=>(if(a1.extract 0 (aD.1:Int).toNat).size+aB.1.size≤9223372036854775807 then(if((a1.extract 0 (aD.1:Int).toNat) ++ aB.1).size+(a1.extract (aD.1:Int).toNat a1.size).size≤9223372036854775807 then(some (((a1.extract 0 (aD.1:Int).toNat) ++ aB.1) ++ (a1.extract (aD.1:Int).toNat a1.size),aB.2.1,aB.2.2))else(none))else(none)))else(none))else(none)))else(if aJ=1 then(if a1.toList=([]:List UInt8)then(some (a1,aN,aO))else((spec_l00Src_pick.f aG aN aO (a1.size:Int)).bind fun aC=>(if 0≤aC.1 then(if aC.1≤(a1.size:Int)then(if 0≤(wrap64 (aC.1+1))then(if(wrap64 (aC.1+1))≤(a1.size:Int)then(if(a1.extract 0 (aC.1:Int).toNat).size+(a1.extract ((wrap64 (aC.1+1)):Int).toNat a1.size).size≤9223372036854775807 then(some ((a1.extract 0 (aC.1:Int).toNat) ++ (a1.extract ((wrap64 (aC.1+1)):Int).toNat a1.size),aC.2.1,aC.2.2))else(none))else(none))else(none))else(none))else(none))))else(some (a1,aN,aO))))=some (r1,r2,r3):=H;have A3:=A' bK;clear bK
 by_cases c4:aJ=0
 ·rw[if_pos c4]at H;have c4b0:(aJ == 0)=true:=beq_iff_eq.mpr c4;have c4b1:(aJ != 0)=false:=bne_eq_false_iff_eq.mpr c4;clear c4;replace H:=Option.bind_eq_some_iff.mp H;obtain⟨⟨aA,aW,aV⟩,bM,H⟩:=H;replace H:(if 0≤aA then(if aA≤(a1.size:Int)then((spec_l00Src_text.f aG aW aV (([(⟨#[32]⟩:ByteArray),(⟨#[48]⟩:ByteArray),(⟨#[45]⟩:ByteArray),(⟨#[120]⟩:ByteArray),(⟨#[49]⟩:ByteArray),(⟨#[57]⟩:ByteArray),(⟨#[46]⟩:ByteArray)]:List ByteArray))).bind fun aB=>(if(a1.extract 0 (aA:Int).toNat).size+aB.1.size≤9223372036854775807 then(if((a1.extract 0 (aA:Int).toNat) ++ aB.1).size+(a1.extract (aA:Int).toNat a1.size).size≤9223372036854775807 then(some (((a1.extract 0 (aA:Int).toNat) ++ aB.1) ++ (a1.extract (aA:Int).toNat a1.size),aB.2.1,aB.2.2))else(none))else(none)))else(none))else(none))=some (r1,r2,r3):=H;have A5:=A' bM;clear bM
  by_cases c6:0≤aA
  ·rw[if_pos c6]at H;have c6b0:=eq_true c6;have c6b1:decide (0≤aA)=true:=dT' c6;clear c6
   by_cases c7:aA≤(a1.size:Int)
   ·rw[if_pos c7]at H;have c7b0:=eq_true c7;have c7b1:decide (aA≤(a1.size:Int))=true:=dT' c7;clear c7;obtain⟨aZ,aR⟩: ∃y_:List ByteArray,y_=(([(⟨#[32]⟩:ByteArray),(⟨#[48]⟩:ByteArray),(⟨#[45]⟩:ByteArray),(⟨#[120]⟩:ByteArray),(⟨#[49]⟩:ByteArray),(⟨#[57]⟩:ByteArray),(⟨#[46]⟩:ByteArray)]:List ByteArray)):=⟨_,rfl⟩
    replace H:((spec_l00Src_text.f aG aW aV aZ).bind fun aB=>(if(a1.extract 0 (aA:Int).toNat).size+aB.1.size≤9223372036854775807 then(if((a1.extract 0 (aA:Int).toNat) ++ aB.1).size+(a1.extract (aA:Int).toNat a1.size).size≤9223372036854775807 then(some (((a1.extract 0 (aA:Int).toNat) ++ aB.1) ++ (a1.extract (aA:Int).toNat a1.size),aB.2.1,aB.2.2))else(none))else(none)))=some (r1,r2,r3):=by first|(rw[aR];with_reducible exact H)|(have H2_:=(Option.bind_some _ _).symm.trans H;rw[aR];with_reducible exact H2_)|(have H2_:=(Option.bind_some _ _).symm.trans H;with_reducible exact H2_)|with_reducible exact H|(rw[aR];exact H)|exact H
    have aX:=A' aR;clear aR;replace H:=Option.bind_eq_some_iff.mp H;obtain⟨⟨aM,bF,bH⟩,bN,H⟩:=H;replace H:(if(a1.extract 0 (aA:Int).toNat).size+aM.size≤9223372036854775807 then(if((a1.extract 0 (aA:Int).toNat) ++ aM).size+(a1.extract (aA:Int).toNat a1.size).size≤9223372036854775807 then(some (((a1.extract 0 (aA:Int).toNat) ++ aM) ++ (a1.extract (aA:Int).toNat a1.size),bF,bH))else(none))else(none))=some (r1,r2,r3):=H;have A8:=A' bN;clear bN
    by_cases c9:(a1.extract 0 (aA:Int).toNat).size+aM.size≤9223372036854775807
    ·rw[if_pos c9]at H;have c9b0:=eq_true c9;have c9b1:decide ((a1.extract 0 (aA:Int).toNat).size+aM.size≤9223372036854775807)=true:=dT' c9;try have c9b2:(9223372036854775807<(a1.extract 0 (aA:Int).toNat).size+aM.size)=False:=eq_false (Nat.not_lt.2 c9)
     try have c9b8:(9223372036854775807<aA.toNat+aM.size)=False:=eq_false (Nat.not_lt.2 (by have h_:=c9;simp only[ByteArray.size_append,ByteArray.size_extract]at h_;have k0_:(aA:Int)≤(a1.size:Int):=oD' (by assumption);have j0_:0≤(aA:Int):=oD' (by assumption);omega))
     have c10b0:=eq_true (oD' qA:0≤aA);have c11b0:=eq_true (oD' qA:aA≤(a1.size:Int))
     by_cases c12:((a1.extract 0 (aA:Int).toNat) ++ aM).size+(a1.extract (aA:Int).toNat a1.size).size≤9223372036854775807
     ·rw[if_pos c12]at H;have c12b0:=eq_true c12;have c12b1:decide (((a1.extract 0 (aA:Int).toNat) ++ aM).size+(a1.extract (aA:Int).toNat a1.size).size≤9223372036854775807)=true:=dT' c12;try have c12b2:(9223372036854775807<((a1.extract 0 (aA:Int).toNat) ++ aM).size+(a1.extract (aA:Int).toNat a1.size).size)=False:=eq_false (Nat.not_lt.2 c12)
      try have c12b7:(9223372036854775807<(a1.extract 0 (aA:Int).toNat).size+aM.size+(a1.extract (aA:Int).toNat a1.size).size)=False:=eq_false (Nat.not_lt.2 (by have h_:=c12;simp only[ByteArray.size_append]at h_;exact h_))
      try have c12b8:(9223372036854775807<aA.toNat+aM.size+(a1.size - aA.toNat))=False:=eq_false (Nat.not_lt.2 (by have h_:=c12;simp only[ByteArray.size_append,ByteArray.size_extract]at h_;have k0_:(aA:Int)≤(a1.size:Int):=oD' (by assumption);have j0_:0≤(aA:Int):=oD' (by assumption);omega))
      simp only[Option.some.injEq,Prod.mk.injEq]at H;obtain⟨rfl,rfl,rfl⟩:=H;go_enter Tryz.func49,Tryz.ntmps49;try go_wp2_with (first|((with_reducible refine gate_callee (f:=48) rfl ?_);refine goesL_ (some 8) rfl rfl Tryz.func48 (by kernel_rfl) rfl #[.pointer (some ⟨g,0,none⟩),.int .i64 5] rfl (by(try simp only[List.map_toArray,List.map_cons,List.map_nil]);first|done|rfl|(simp only[List.length_drop,List.length_take];rfl)) ?_;(with_reducible refine(spec_l00Src_pick.calls g aG aT aS 5 aJ aN aO w0 _ ?aI ?aH A3.out).mono ?_);(case aI=>repeat(first|(with_reducible first|exact aE.out|apply IsS100.alloc|apply IsS100.drewN|apply IsS100.drew|apply IsS100.set_1|apply IsS100.set_2)|exact aE.out));(case aH=>repeat(first|(with_reducible first|exact HB.out|apply K'|apply F'|apply J'|refine E' ?_ (IsS100.ge aE.out))|exact HB.out));rintro e bR ⟨rfl,hi,hb,hk⟩;refine⟨_,rfl,?_⟩;replace HK:=A' (KeepBut.trans (qZ7_0 HK.out) hk (.inl rfl));replace HB:=A' (hb);replace aE:=A' (hi);(try clear hb);(try clear hb2);(try clear hk);(try clear hi))|((with_reducible refine gate_callee (f:=48) rfl ?_);refine goesL_ (some 15) rfl rfl Tryz.func48 (by kernel_rfl) rfl #[.pointer (some ⟨g,0,none⟩),.int .i64 (wrap64 ((a1.size:Int)+1))] rfl (by(try simp only[List.map_toArray,List.map_cons,List.map_nil]);first|done|rfl|(simp only[List.length_drop,List.length_take];rfl)) ?_;(with_reducible refine(spec_l00Src_pick.calls g aG aN aO (wrap64 ((a1.size:Int)+1)) aA aW aV w0 _ ?aI ?aH A5.out).mono ?_);(case aI=>repeat(first|(with_reducible first|exact aE.out|apply IsS100.alloc|apply IsS100.drewN|apply IsS100.drew|apply IsS100.set_1|apply IsS100.set_2)|exact aE.out));(case aH=>repeat(first|(with_reducible first|exact HB.out|apply K'|apply F'|apply J'|refine E' ?_ (IsS100.ge aE.out))|exact HB.out));rintro e bO ⟨rfl,hi,hb,hk⟩;refine⟨_,rfl,?_⟩;replace HK:=A' (KeepBut.trans (qZ7_0 HK.out) hk (.inl rfl));replace HB:=A' (hb);replace aE:=A' (hi);(try clear hb);(try clear hb2);(try clear hk);(try clear hi)))
      replace aE:=A' (IsS100.drew aE.out);replace HK:=A' (keep_drew HK.out);replace HB:=A' (J' HB.out);refine start_ (n:=12) (S:=fun w'=>True) (ds:=[]) #[n',n',n',n',n',n',n',n',n',n',n',n'] (by kernel_rfl) rfl rfl trivial (fun hHeld=>?_);refine with_tabW spec_l01Spoil.tab4 spec_l01Spoil.bits4 (fun HT_ HW_=>?_)
      generalize bO.drew=w15 at aE HK HB hHeld ⊢
      refine pure_ (i:=0) (N:=some 16) (v:=?_) (a':=?_) #[y',n',n',n',n',n',n',n',n',n',n',n'] rfl rfl (any_of HT_.out (by kernel_rfl)) (fun _ _ _ h=>h) (Or.inl ⟨by rfl,?_⟩) ?_ ?_;rotate_left
      ·exact qI
      rotate_left
      ·exact qP
      refine pure_ (i:=1) (N:=some 17) (v:=?_) (a':=?_) #[y',y',n',n',n',n',n',n',n',n',n',n'] rfl rfl (any_of HT_.out (by kernel_rfl)) (fun _ _ _ h=>h) (Or.inl ⟨by rfl,?_⟩) ?_ ?_;rotate_left
      ·exact qI
      rotate_left
      ·exact qP
      refine pure_ (i:=2) (N:=some 18) (v:=?_) (a':=?_) #[y',y',y',n',n',n',n',n',n',n',n',n'] rfl rfl (any_of HT_.out (by kernel_rfl)) (fun _ _ _ h=>h) (Or.inl ⟨by rfl,?_⟩) ?_ ?_;rotate_left
      ·exact qI
      rotate_left
      ·exact qP
      refine pure_ (i:=3) (N:=some 19) (v:=?_) (a':=?_) #[y',y',y',y',n',n',n',n',n',n',n',n'] rfl rfl (any_of HT_.out (by kernel_rfl)) (fun _ _ _ h=>h) (Or.inl ⟨by rfl,?_⟩) ?_ ?_;rotate_left
      ·exact qI
      rotate_left
      ·exact qP
      refine pure_ (i:=7) (N:=some 23) (v:=?_) (a':=?_) #[y',y',y',y',n',n',n',y',n',n',n',n'] rfl rfl (any_of HT_.out (by kernel_rfl)) (fun _ _ _ h=>h) (Or.inl ⟨by rfl,?_⟩) ?_ ?_;rotate_left
      ·exact qI
      rotate_left
      ·exact qP
      refine pure_ (i:=8) (N:=some 24) (v:=?_) (a':=?_) #[y',y',y',y',n',n',n',y',y',n',n',n'] rfl rfl (any_of HT_.out (by kernel_rfl)) (fun _ _ _ h=>h) (Or.inl ⟨by rfl,?_⟩) ?_ ?_;rotate_left
      ·exact qI
      rotate_left
      ·exact qP
      refine pure_ (i:=9) (N:=some 25) (v:=?_) (a':=?_) #[y',y',y',y',n',n',n',y',y',y',n',n'] rfl rfl (any_of HT_.out (by kernel_rfl)) (fun _ _ _ h=>h) (Or.inl ⟨by rfl,?_⟩) ?_ ?_;rotate_left
      ·exact qI
      rotate_left
      ·exact qP
      refine one_ (i:=4) (N:=some 20) #[y',y',y',y',y',n',n',y',y',y',n',n'] rfl rfl (one_of HT_.out (by kernel_rfl)) (by decide) (fun K hK=>?_);refine Kd.R_lit_step Kd.string _ 9 ?hg (N:=20) ?hd (xs:=([(⟨#[32]⟩:ByteArray),(⟨#[48]⟩:ByteArray),(⟨#[45]⟩:ByteArray),(⟨#[120]⟩:ByteArray),(⟨#[49]⟩:ByteArray),(⟨#[57]⟩:ByteArray),(⟨#[46]⟩:ByteArray)]:List ByteArray)) (inner:=[.string (⟨#[32]⟩:ByteArray),.string (⟨#[48]⟩:ByteArray),.string (⟨#[45]⟩:ByteArray),.string (⟨#[120]⟩:ByteArray),.string (⟨#[49]⟩:ByteArray),.string (⟨#[57]⟩:ByteArray),.string (⟨#[46]⟩:ByteArray)]) (ok:=fun _=>True) (okp:=fun _=>True) ?hr ?hp (fun _ hk=>hk) trivial (Below.refl _ _) (Nat.le_refl _) (by simp) ?_;(case hd=>rfl);(case hg=>rfl);(case hr=>first|(go_simp;done)|(go_simp;rfl));(case hp=>exact(Reps.one (show Kd.M Kd.string _ _ _ (⟨#[32]⟩:ByteArray) [.string (⟨#[32]⟩:ByteArray)]from rfl) (Reps.one (show Kd.M Kd.string _ _ _ (⟨#[48]⟩:ByteArray) [.string (⟨#[48]⟩:ByteArray)]from rfl) (Reps.one (show Kd.M Kd.string _ _ _ (⟨#[45]⟩:ByteArray) [.string (⟨#[45]⟩:ByteArray)]from rfl) (Reps.one (show Kd.M Kd.string _ _ _ (⟨#[120]⟩:ByteArray) [.string (⟨#[120]⟩:ByteArray)]from rfl) (Reps.one (show Kd.M Kd.string _ _ _ (⟨#[49]⟩:ByteArray) [.string (⟨#[49]⟩:ByteArray)]from rfl) (Reps.one (show Kd.M Kd.string _ _ _ (⟨#[57]⟩:ByteArray) [.string (⟨#[57]⟩:ByteArray)]from rfl) (Reps.one (show Kd.M Kd.string _ _ _ (⟨#[46]⟩:ByteArray) [.string (⟨#[46]⟩:ByteArray)]from rfl) (Reps.none _ _)))))))));intro bQ bV aU hb hg_ hnew_;clear hg_ hnew_;(first|rw[← aX.out]at aU|(simp only[Int.reduceToNat]at aU;rw[← aX.out]at aU));have n0_:=A' (Kd.R_lower aU (keep_size (w:=w) (g:=g) (row:=none) (qZ7_0 HK.out)));have n1_:=A' (IsS100.below (qZ7_1 aE.out) hb);have n2_:=A' (KeepBut.trans (qZ7_0 HK.out) (KeepBut.of_below hb g none) (.inl rfl));have n3_:=A' (W' (qZ7_2 HB.out (IsS100.ge aE.out)) hb);clear aE;clear HK;clear HB;have aQ:=n0_;have aE:=n1_;have HK:=n2_;have HB:=n3_;clear n0_ n1_ n2_ n3_;clear hb aU;obtain⟨bJ,bI,bE⟩:=Kd.R_slice aQ.out;(first|subst bE|(injection bE with f1_ f2_ f3_;have f4_:=f1_.symm;have f5_:=f3_.symm;clear f1_ f2_ f3_;subst f4_;subst f5_));refine hK.out _ _ trivial (fun hHeld=>?_);clear hK K;refine norm_ (a':=?_) ?_ ?_;rotate_left
      ·show Act.put _ (some 20) _=_
       exact qP
      refine one_ (i:=5) (N:=some 21) #[y',y',y',y',y',y',n',y',y',y',n',n'] rfl rfl (one_of HT_.out (by kernel_rfl)) (by decide) (fun K hK=>?_);refine goes_ Tryz.func50 (by kernel_rfl) rfl #[.pointer (some ⟨g,0,none⟩),.slice bJ aZ.length bI] (by rfl) rfl rfl (by(try simp only[List.map_toArray,List.map_cons,List.map_nil]);first|done|rfl|(simp only[List.length_drop,List.length_take];rfl)) ?_
      with_reducible refine(spec_l00Src_text.calls g aG aW aV _ _ aZ aM bF bH w0 _ ?aI ?aH ?bB ?bC ?bG A8.out).mono ?_
      (case aI=>repeat(first|(with_reducible first|exact aE.out|apply IsS100.alloc|apply IsS100.drewN|apply IsS100.drew|apply IsS100.set_1|apply IsS100.set_2)|exact aE.out));(case aH=>repeat(first|(with_reducible first|exact HB.out|apply K'|apply F'|apply J'|refine E' ?_ (IsS100.ge aE.out))|exact HB.out));(case bB=>repeat(first|exact(Kd.R_reads' aQ.out).2.2|(with_reducible refine R' ?_ _)|(with_reducible refine S' ?_ _)|(with_reducible refine T' ?_)));(case bC=>exact(Kd.R_reads' aQ.out).2.1);(case bG=>exact far_slice (IsS100.own_ne aE.out aQ.out (by decide)));rintro e bS ⟨rfl,hi,hb,hk⟩;refine⟨_,rfl,?_⟩;replace aQ:=A' (Q' (Kd.R_keep (IsS100.apart (show IsS100 w0 _ g aG aW aV from by repeat(first|(with_reducible first|exact aE.out|apply IsS100.alloc|apply IsS100.drewN|apply IsS100.drew|apply IsS100.set_1|apply IsS100.set_2)|exact aE.out)) (qR aQ.out) (by decide)) hk (fun _ h=>h.2)) (fun _ h=>h.1));replace HK:=A' (KeepBut.trans (qZ7_0 HK.out) hk (.inl rfl));replace HB:=A' (hb);replace aE:=A' (hi);(try clear hb);(try clear hb2);(try clear hk);(try clear hi);refine hK.out _ _ trivial (fun hHeld=>?_);clear hK K;refine norm_ (a':=?_) ?_ ?_;rotate_left
      ·show Act.put _ (some 21) _=_
       exact qP
      refine pure_ (i:=6) (N:=some 22) (v:=?_) (a':=?_) #[y',y',y',y',y',y',y',y',y',y',n',n'] rfl rfl (any_of HT_.out (by kernel_rfl)) (fun _ _ _ h=>h) (Or.inl ⟨by rfl,?_⟩) ?_ ?_;rotate_left
      ·exact qI
      rotate_left
      ·exact qP
      refine pure_ (i:=10) (N:=some 26) (v:=?_) (a':=?_) #[y',y',y',y',y',y',y',y',y',y',y',n'] rfl rfl (any_of HT_.out (by kernel_rfl)) (fun _ _ _ h=>h) (Or.inl ⟨by rfl,?_⟩) ?_ ?_;rotate_left
      ·exact qI
      rotate_left
      ·exact qP
      refine pure_ (i:=11) (N:=some 1) (v:=?_) (a':=?_) #[y',y',y',y',y',y',y',y',y',y',y',y'] rfl rfl (any_of HT_.out (by kernel_rfl)) (fun _ _ _ h=>h) (Or.inl ⟨by rfl,?_⟩) ?_ ?_;rotate_left
      ·exact qI
      rotate_left
      ·exact qP
      refine done_ (done_of HT_.out (by kernel_rfl)) ?_;try go_wp2
      go_ret;exact⟨qE,qZ7_1 aE.out,qZ7_2 HB.out (IsS100.ge aE.out),qZ7_0 HK.out⟩
     ·rw[if_neg c12]at H;exact absurd H (by simp)
    ·rw[if_neg c9]at H;exact absurd H (by simp)
   ·rw[if_neg c7]at H;exact absurd H (by simp)
  ·rw[if_neg c6]at H;exact absurd H (by simp)
 ·rw[if_neg c4]at H;have c4b0:(aJ == 0)=false:=beq_eq_false_iff_ne.mpr c4;have c4b1:(aJ != 0)=true:=bne_iff_ne.mpr c4
  by_cases c20:aJ=1
  ·rw[if_pos c20]at H;have c20b0:(aJ == 1)=true:=beq_iff_eq.mpr c20;have c20b1:(aJ != 1)=false:=bne_eq_false_iff_eq.mpr c20;clear c20
   by_cases c21:a1.toList=([]:List UInt8)
   ·rw[if_pos c21]at H;have c21b0:(a1.toList == ([]:List UInt8))=true:=beq_iff_eq.mpr c21;have c21b1:(a1.toList != ([]:List UInt8))=false:=bne_eq_false_iff_eq.mpr c21;clear c21;simp only[Option.some.injEq,Prod.mk.injEq]at H;obtain⟨rfl,rfl,rfl⟩:=H;go_enter Tryz.func49,Tryz.ntmps49;go_wp2_with (first|((with_reducible refine gate_callee (f:=48) rfl ?_);refine goesL_ (some 8) rfl rfl Tryz.func48 (by kernel_rfl) rfl #[.pointer (some ⟨g,0,none⟩),.int .i64 5] rfl (by(try simp only[List.map_toArray,List.map_cons,List.map_nil]);first|done|rfl|(simp only[List.length_drop,List.length_take];rfl)) ?_;(with_reducible refine(spec_l00Src_pick.calls g aG aT aS 5 aJ aN aO w0 _ ?aI ?aH A3.out).mono ?_);(case aI=>repeat(first|(with_reducible first|exact aE.out|apply IsS100.alloc|apply IsS100.drewN|apply IsS100.drew|apply IsS100.set_1|apply IsS100.set_2)|exact aE.out));(case aH=>repeat(first|(with_reducible first|exact HB.out|apply K'|apply F'|apply J'|refine E' ?_ (IsS100.ge aE.out))|exact HB.out));rintro e bW ⟨rfl,hi,hb,hk⟩;refine⟨_,rfl,?_⟩;replace HK:=A' (KeepBut.trans (qZ7_0 HK.out) hk (.inl rfl));replace HB:=A' (hb);replace aE:=A' (hi);(try clear hb);(try clear hb2);(try clear hk);(try clear hi)));go_ret;exact⟨qE,qZ7_1 aE.out,qZ7_2 HB.out (IsS100.ge aE.out),qZ7_0 HK.out⟩
   ·rw[if_neg c21]at H;have c21b0:(a1.toList == ([]:List UInt8))=false:=beq_eq_false_iff_ne.mpr c21;have c21b1:(a1.toList != ([]:List UInt8))=true:=bne_iff_ne.mpr c21;replace H:=Option.bind_eq_some_iff.mp H;obtain⟨⟨aF,aY,bA⟩,bD,H⟩:=H;replace H:(if 0≤aF then(if aF≤(a1.size:Int)then(if 0≤(wrap64 (aF+1))then(if(wrap64 (aF+1))≤(a1.size:Int)then(if(a1.extract 0 (aF:Int).toNat).size+(a1.extract ((wrap64 (aF+1)):Int).toNat a1.size).size≤9223372036854775807 then(some ((a1.extract 0 (aF:Int).toNat) ++ (a1.extract ((wrap64 (aF+1)):Int).toNat a1.size),aY,bA))else(none))else(none))else(none))else(none))else(none))=some (r1,r2,r3):=H;have bL:=A' bD;clear bD
    by_cases c24:0≤aF
    ·rw[if_pos c24]at H;have c24b0:=eq_true c24;have c24b1:decide (0≤aF)=true:=dT' c24;clear c24
     by_cases c25:aF≤(a1.size:Int)
     ·rw[if_pos c25]at H;have c25b0:=eq_true c25;have c25b1:decide (aF≤(a1.size:Int))=true:=dT' c25;clear c25;obtain⟨aL,aP⟩: ∃j_:Int,(wrap64 (aF+1))=j_:=⟨_,rfl⟩
      replace H:(if 0≤(aL)then(if(aL)≤(a1.size:Int)then(if(a1.extract 0 (aF:Int).toNat).size+(a1.extract ((aL):Int).toNat a1.size).size≤9223372036854775807 then(some ((a1.extract 0 (aF:Int).toNat) ++ (a1.extract ((aL):Int).toNat a1.size),aY,bA))else(none))else(none))else(none))=some (r1,r2,r3):=by first|(rw[aP]at H;exact H)|(simp only[aP]at H ⊢;exact H)
      (try rw[aP]at A3);(try rw[aP]at bL);have hji26w:(IntKind.i64.wrap (aF+1))=aL:=(i64_w _).trans aP
      by_cases c27:0≤(aL)
      ·rw[if_pos c27]at H;have c27b0:=eq_true c27;have c27b1:decide (0≤(aL))=true:=dT' c27;clear c27
       by_cases c28:(aL)≤(a1.size:Int)
       ·rw[if_pos c28]at H;have c28b0:=eq_true c28;have c28b1:decide ((aL)≤(a1.size:Int))=true:=dT' c28;clear c28
        by_cases c29:(a1.extract 0 (aF:Int).toNat).size+(a1.extract ((aL):Int).toNat a1.size).size≤9223372036854775807
        ·rw[if_pos c29]at H;have c29b0:=eq_true c29;have c29b1:decide ((a1.extract 0 (aF:Int).toNat).size+(a1.extract ((aL):Int).toNat a1.size).size≤9223372036854775807)=true:=dT' c29;try have c29b2:(9223372036854775807<(a1.extract 0 (aF:Int).toNat).size+(a1.extract ((aL):Int).toNat a1.size).size)=False:=eq_false (Nat.not_lt.2 c29)
         try have c29b8:(9223372036854775807<aF.toNat+(a1.size - aL.toNat))=False:=eq_false (Nat.not_lt.2 (by have h_:=c29;simp only[ByteArray.size_append,ByteArray.size_extract]at h_;have k0_:(aF:Int)≤(a1.size:Int):=oD' (by assumption);have j0_:0≤(aF:Int):=oD' (by assumption);have k1_:(aL:Int)≤(a1.size:Int):=oD' (by assumption);have j1_:0≤(aL:Int):=oD' (by assumption);omega))
         simp only[Option.some.injEq,Prod.mk.injEq]at H;obtain⟨rfl,rfl,rfl⟩:=H;go_enter Tryz.func49,Tryz.ntmps49;try go_wp2_with (first|((with_reducible refine gate_callee (f:=48) rfl ?_);refine goesL_ (some 8) rfl rfl Tryz.func48 (by kernel_rfl) rfl #[.pointer (some ⟨g,0,none⟩),.int .i64 5] rfl (by(try simp only[List.map_toArray,List.map_cons,List.map_nil]);first|done|rfl|(simp only[List.length_drop,List.length_take];rfl)) ?_;(with_reducible refine(spec_l00Src_pick.calls g aG aT aS 5 aJ aN aO w0 _ ?aI ?aH A3.out).mono ?_);(case aI=>repeat(first|(with_reducible first|exact aE.out|apply IsS100.alloc|apply IsS100.drewN|apply IsS100.drew|apply IsS100.set_1|apply IsS100.set_2)|exact aE.out));(case aH=>repeat(first|(with_reducible first|exact HB.out|apply K'|apply F'|apply J'|refine E' ?_ (IsS100.ge aE.out))|exact HB.out));rintro e bU ⟨rfl,hi,hb,hk⟩;refine⟨_,rfl,?_⟩;replace HK:=A' (KeepBut.trans (qZ7_0 HK.out) hk (.inl rfl));replace HB:=A' (hb);replace aE:=A' (hi);(try clear hb);(try clear hb2);(try clear hk);(try clear hi))|((with_reducible refine gate_callee (f:=48) rfl ?_);refine goesL_ (some 34) rfl rfl Tryz.func48 (by kernel_rfl) rfl #[.pointer (some ⟨g,0,none⟩),.int .i64 (a1.size:Int)] rfl (by(try simp only[List.map_toArray,List.map_cons,List.map_nil]);first|done|rfl|(simp only[List.length_drop,List.length_take];rfl)) ?_;(with_reducible refine(spec_l00Src_pick.calls g aG aN aO (a1.size:Int) aF aY bA w0 _ ?aI ?aH bL.out).mono ?_);(case aI=>repeat(first|(with_reducible first|exact aE.out|apply IsS100.alloc|apply IsS100.drewN|apply IsS100.drew|apply IsS100.set_1|apply IsS100.set_2)|exact aE.out));(case aH=>repeat(first|(with_reducible first|exact HB.out|apply K'|apply F'|apply J'|refine E' ?_ (IsS100.ge aE.out))|exact HB.out));rintro e bP ⟨rfl,hi,hb,hk⟩;refine⟨_,rfl,?_⟩;replace HK:=A' (KeepBut.trans (qZ7_0 HK.out) hk (.inl rfl));replace HB:=A' (hb);replace aE:=A' (hi);(try clear hb);(try clear hb2);(try clear hk);(try clear hi)))
         replace aE:=A' (IsS100.drew aE.out);replace HK:=A' (keep_drew HK.out);replace HB:=A' (J' HB.out);refine start_ (n:=9) (S:=fun w'=>True) (ds:=[]) #[n',n',n',n',n',n',n',n',n'] (by kernel_rfl) rfl rfl trivial (fun hHeld=>?_);refine with_tabW spec_l01Spoil.tab8 spec_l01Spoil.bits8 (fun HT_ HW_=>?_)
         generalize bP.drew=w32 at aE HK HB hHeld ⊢
         refine pure_ (i:=0) (N:=some 35) (v:=?_) (a':=?_) #[y',n',n',n',n',n',n',n',n'] rfl rfl (any_of HT_.out (by kernel_rfl)) (fun _ _ _ h=>h) (Or.inl ⟨by rfl,?_⟩) ?_ ?_;rotate_left
         ·exact qI
         rotate_left
         ·exact qP
         refine pure_ (i:=1) (N:=some 36) (v:=?_) (a':=?_) #[y',y',n',n',n',n',n',n',n'] rfl rfl (any_of HT_.out (by kernel_rfl)) (fun _ _ _ h=>h) (Or.inl ⟨by rfl,?_⟩) ?_ ?_;rotate_left
         ·exact qI
         rotate_left
         ·exact qP
         refine pure_ (i:=2) (N:=some 37) (v:=?_) (a':=?_) #[y',y',y',n',n',n',n',n',n'] rfl rfl (any_of HT_.out (by kernel_rfl)) (fun _ _ _ h=>h) (Or.inl ⟨by rfl,?_⟩) ?_ ?_;rotate_left
         ·exact qI
         rotate_left
         ·exact qP
         refine pure_ (i:=3) (N:=some 38) (v:=?_) (a':=?_) #[y',y',y',y',n',n',n',n',n'] rfl rfl (any_of HT_.out (by kernel_rfl)) (fun _ _ _ h=>h) (Or.inl ⟨by rfl,?_⟩) ?_ ?_;rotate_left
         ·exact qI
         rotate_left
         ·exact qP
         refine pure_ (i:=4) (N:=some 39) (v:=?_) (a':=?_) #[y',y',y',y',y',n',n',n',n'] rfl rfl (any_of HT_.out (by kernel_rfl)) (fun _ _ _ h=>h) (Or.inl ⟨by rfl,?_⟩) ?_ ?_;rotate_left
         ·exact qI
         rotate_left
         ·exact qP
         refine pure_ (i:=5) (N:=some 40) (v:=?_) (a':=?_) #[y',y',y',y',y',y',n',n',n'] rfl rfl (any_of HT_.out (by kernel_rfl)) (fun _ _ _ h=>h) (Or.inl ⟨by rfl,?_⟩) ?_ ?_;rotate_left
         ·exact qI
         rotate_left
         ·exact qP
         refine pure_ (i:=6) (N:=some 41) (v:=?_) (a':=?_) #[y',y',y',y',y',y',y',n',n'] rfl rfl (any_of HT_.out (by kernel_rfl)) (fun _ _ _ h=>h) (Or.inl ⟨by rfl,?_⟩) ?_ ?_;rotate_left
         ·exact qI
         rotate_left
         ·exact qP
         refine pure_ (i:=7) (N:=some 42) (v:=?_) (a':=?_) #[y',y',y',y',y',y',y',y',n'] rfl rfl (any_of HT_.out (by kernel_rfl)) (fun _ _ _ h=>h) (Or.inl ⟨by rfl,?_⟩) ?_ ?_;rotate_left
         ·exact qI
         rotate_left
         ·exact qP
         refine pure_ (i:=8) (N:=some 1) (v:=?_) (a':=?_) #[y',y',y',y',y',y',y',y',y'] rfl rfl (any_of HT_.out (by kernel_rfl)) (fun _ _ _ h=>h) (Or.inl ⟨by rfl,?_⟩) ?_ ?_;rotate_left
         ·exact qI
         rotate_left
         ·exact qP
         refine done_ (done_of HT_.out (by kernel_rfl)) ?_;try go_wp2
         go_ret;exact⟨by first|rfl|(simp[errW_none,errW_some] <;> rfl)|(simp only[← aP];first|rfl|(simp[errW_none,errW_some] <;> rfl))|(simp[*,errW_none,errW_some] <;> rfl),qZ7_1 aE.out,qZ7_2 HB.out (IsS100.ge aE.out),qZ7_0 HK.out⟩
        ·rw[if_neg c29]at H;exact absurd H (by simp)
       ·rw[if_neg c28]at H;exact absurd H (by simp)
      ·rw[if_neg c27]at H;exact absurd H (by simp)
     ·rw[if_neg c25]at H;exact absurd H (by simp)
    ·rw[if_neg c24]at H;exact absurd H (by simp)
  ·rw[if_neg c20]at H;have c20b0:(aJ == 1)=false:=beq_eq_false_iff_ne.mpr c20;have c20b1:(aJ != 1)=true:=bne_iff_ne.mpr c20;simp only[Option.some.injEq,Prod.mk.injEq]at H;obtain⟨rfl,rfl,rfl⟩:=H;go_enter Tryz.func49,Tryz.ntmps49;go_wp2_with (first|((with_reducible refine gate_callee (f:=48) rfl ?_);refine goesL_ (some 8) rfl rfl Tryz.func48 (by kernel_rfl) rfl #[.pointer (some ⟨g,0,none⟩),.int .i64 5] rfl (by(try simp only[List.map_toArray,List.map_cons,List.map_nil]);first|done|rfl|(simp only[List.length_drop,List.length_take];rfl)) ?_;(with_reducible refine(spec_l00Src_pick.calls g aG aT aS 5 aJ aN aO w0 _ ?aI ?aH A3.out).mono ?_);(case aI=>repeat(first|(with_reducible first|exact aE.out|apply IsS100.alloc|apply IsS100.drewN|apply IsS100.drew|apply IsS100.set_1|apply IsS100.set_2)|exact aE.out));(case aH=>repeat(first|(with_reducible first|exact HB.out|apply K'|apply F'|apply J'|refine E' ?_ (IsS100.ge aE.out))|exact HB.out));rintro e bX ⟨rfl,hi,hb,hk⟩;refine⟨_,rfl,?_⟩;replace HK:=A' (KeepBut.trans (qZ7_0 HK.out) hk (.inl rfl));replace HB:=A' (hb);replace aE:=A' (hi);(try clear hb);(try clear hb2);(try clear hk);(try clear hi)));go_ret;exact⟨qE,qZ7_1 aE.out,qZ7_2 HB.out (IsS100.ge aE.out),qZ7_0 HK.out⟩
/-! ### spec_DrawReadWay: function 18 -/
def spec_DrawReadWay.j0:Nat→ByteArray→Int→Bool→List Int→Int→Int→Option (ByteArray)
 |0,_,_,_,_,_,_=>none
 |k+1,x5,aF,aG,aA,aC,aB=>if aG=true then((spec_l01Spoil.f aA aC aB x5).bind fun aD=>(some aD.1))else(if aF=2 then((spec_l00Src_text.f aA aC aB (([(⟨#[102,48,32,109,48,32,102,49,32,109,49,32,102,50,32,109,50,32,102,51,32,109,51]⟩:ByteArray),(⟨#[102,48,32,109,48,32,102,49,32,109,49,32,102,50,32,109,50,32,102,51,32,109,51,32,102,48]⟩:ByteArray),(⟨#[102,52]⟩:ByteArray),(⟨#[109,51]⟩:ByteArray),(⟨#[102,48,32,32,109,48]⟩:ByteArray),(⟨#[120,48]⟩:ByteArray)]:List ByteArray))).bind fun aE=>(some aE.1))else(some x5))
def spec_DrawReadWay.f (k:Nat) (l0:List Int):Option (ByteArray):=(spec_l00From.f l0).bind fun aB=>((spec_l05New.f aB.1 aB.2.1 aB.2.2).bind fun aC=>((spec_l07Draw.f k aB.1 aC.2.2.2.1 aC.2.2.2.2 aC.1 aC.2.1 aC.2.2.1).bind fun aD=>((spec_l07Text.f k aD.1).bind fun aE=>((spec_l00Src_pick.f aB.1 aD.2.1 aD.2.2 6).bind fun aA=>(if aA.1=0 then(spec_DrawReadWay.j0 k aE aA.1 (aA.1 == 0) aB.1 aA.2.1 aA.2.2)else(spec_DrawReadWay.j0 k aE aA.1 (aA.1 == 1) aB.1 aA.2.1 aA.2.2))))))
theorem spec_DrawReadWay.mono_l: ∀k,(∀y0 y1 y2 y3 y4 y5,LeO (spec_DrawReadWay.j0 k y0 y1 y2 y3 y4 y5) (spec_DrawReadWay.j0 (k+1) y0 y1 y2 y3 y4 y5))
 |0=>fun _ _ _ _ _ _ r h=>by simp[spec_DrawReadWay.j0]at h
 |k+1=>by
  have aA:=spec_DrawReadWay.mono_l k
  ·intro y0 y1 y2 y3 y4 y5
   unfold spec_DrawReadWay.j0
   repeat' first
   |(with_reducible exact aA _ _ _ _ _ _)
   |(with_reducible exact spec_l07Draw.mono _ _ _ _ _ _ _)
   |(with_reducible exact spec_l07Text.mono _ _)
   |(with_reducible exact LeO.refl _)
   |(with_reducible exact LeO.none _)
   |(with_reducible refine LeO.ite ?_ ?_)
   |(with_reducible refine LeO.bind ?_ (fun _=>?_))
   |exact LeO.none _
   |refine LeO.ite ?_ ?_
   |refine LeO.bind ?_ (fun _=>?_)
theorem spec_DrawReadWay.mono: ∀a0 k,LeO (spec_DrawReadWay.f k a0) (spec_DrawReadWay.f (k+1) a0):=by
 intro a0 k
 have aA:=spec_DrawReadWay.mono_l k
 unfold spec_DrawReadWay.f
 repeat' first
   |(with_reducible exact aA _ _ _ _ _ _)
   |(with_reducible exact spec_l07Draw.mono _ _ _ _ _ _ _)
   |(with_reducible exact spec_l07Text.mono _ _)
   |(with_reducible exact LeO.refl _)
   |(with_reducible exact LeO.none _)
   |(with_reducible refine LeO.ite ?_ ?_)
   |(with_reducible refine LeO.bind ?_ (fun _=>?_))
   |exact LeO.none _
   |refine LeO.ite ?_ ?_
   |refine LeO.bind ?_ (fun _=>?_)
theorem qZ7_3 {p q r0 r1:Prop} (h:q) (g0:r0) (g1:r1) (f:q→r0→r1→p:=by intro h_ g0_ g1_;repeat(first|(with_reducible first|exact h_|apply K'|apply F'|apply J'|refine E' ?_ g0_|refine E' ?_ g1_)|exact h_)):p:=f h g0 g1
theorem qZ7_4 {p q r0:Prop} (h:q) (g0:r0) (f:q→r0→p:=by intro h_ g0_;repeat(first|(with_reducible first|exact h_|apply IsS100.alloc|apply IsS100.drewN|apply IsS100.drew|apply IsS100.set_1|apply IsS100.set_2|refine IsS100.far ?_ g0_ _)|exact h_)):p:=f h g0
set_option maxHeartbeats 8000000 in
set_option maxRecDepth 100000 in
theorem spec_DrawReadWay.calls (k:Nat) (A0:Option Addr) (c0:Nat) (l0:List Int) (r:ByteArray) (w:World) (cX:Kd.C (Kd.int .u8) w A0 l0.length l0) (cO:l0.length≤c0) (h:spec_DrawReadWay.f k l0=some r):
  Calls Tryz.prog 18 #[.slice A0 l0.length c0] w fun e w'=>e= .returned (.string r)∧Below w.heap.size w w':=by
 have dF:=Tryz.underlying25;have dB:=A' cX;have dD:=A' cO;clear cX cO;have HB:=A' (Below.refl w.heap.size w);have H:((spec_l00From.f l0).bind fun aS=>((spec_l05New.f aS.1 aS.2.1 aS.2.2).bind fun aO=>((spec_l07Draw.f k aS.1 aO.2.2.2.1 aO.2.2.2.2 aO.1 aO.2.1 aO.2.2.1).bind fun aN=>((spec_l07Text.f k aN.1).bind fun aG=>((spec_l00Src_pick.f aS.1 aN.2.1 aN.2.2 6).bind fun aB=>(if aB.1=0 then(spec_DrawReadWay.j0 k aG aB.1 (aB.1 == 0) aS.1 aB.2.1 aB.2.2)else(spec_DrawReadWay.j0 k aG aB.1 (aB.1 == 1) aS.1 aB.2.1 aB.2.2)))))))=some r:=h;clear h;replace H:=Option.bind_eq_some_iff.mp H;obtain⟨⟨aE,bR,bP⟩,cS,H⟩:=H;replace H:((spec_l05New.f aE bR bP).bind fun aO=>((spec_l07Draw.f k aE aO.2.2.2.1 aO.2.2.2.2 aO.1 aO.2.1 aO.2.2.1).bind fun aN=>((spec_l07Text.f k aN.1).bind fun aG=>((spec_l00Src_pick.f aE aN.2.1 aN.2.2 6).bind fun aB=>(if aB.1=0 then(spec_DrawReadWay.j0 k aG aB.1 (aB.1 == 0) aE aB.2.1 aB.2.2)else(spec_DrawReadWay.j0 k aG aB.1 (aB.1 == 1) aE aB.2.1 aB.2.2))))))=some r:=H;have A2:=A' cS;clear cS;replace H:=Option.bind_eq_some_iff.mp H;obtain⟨⟨aM,aQ,aU,bA,bC⟩,cN,H⟩:=H;replace H:((spec_l07Draw.f k aE bA bC aM aQ aU).bind fun aN=>((spec_l07Text.f k aN.1).bind fun aG=>((spec_l00Src_pick.f aE aN.2.1 aN.2.2 6).bind fun aB=>(if aB.1=0 then(spec_DrawReadWay.j0 k aG aB.1 (aB.1 == 0) aE aB.2.1 aB.2.2)else(spec_DrawReadWay.j0 k aG aB.1 (aB.1 == 1) aE aB.2.1 aB.2.2)))))=some r:=H;have A3:=A' cN;clear cN;replace H:=Option.bind_eq_some_iff.mp H;obtain⟨⟨bG,bB,bE⟩,cQ,H⟩:=H;replace H:((spec_l07Text.f k bG).bind fun aG=>((spec_l00Src_pick.f aE bB bE 6).bind fun aB=>(if aB.1=0 then(spec_DrawReadWay.j0 k aG aB.1 (aB.1 == 0) aE aB.2.1 aB.2.2)else(spec_DrawReadWay.j0 k aG aB.1 (aB.1 == 1) aE aB.2.1 aB.2.2))))=some r:=H;have A4:=A' cQ;clear cQ;replace H:=Option.bind_eq_some_iff.mp H;obtain⟨aG,cR,H⟩:=H;replace H:((spec_l00Src_pick.f aE bB bE 6).bind fun aB=>(if aB.1=0 then(spec_DrawReadWay.j0 k aG aB.1 (aB.1 == 0) aE aB.2.1 aB.2.2)else(spec_DrawReadWay.j0 k aG aB.1 (aB.1 == 1) aE aB.2.1 aB.2.2)))=some r:=H;have A5:=A' cR;clear cR;replace H:=Option.bind_eq_some_iff.mp H;obtain⟨⟨aH,aV,aT⟩,cT,H⟩:=H;replace H:(if aH=0 then(spec_DrawReadWay.j0 k aG aH (aH == 0) aE aV aT)else(spec_DrawReadWay.j0 k aG aH (aH == 1) aE aV aT))=some r:=H;have A6:=A' cT;clear cT;have cA:=A' H;clear H;go_enter Tryz.func18,Tryz.ntmps18;go_upto_if 15 with (first|((with_reducible refine gate_callee (f:=44) rfl ?_);refine goesL_ (some 7) rfl rfl Tryz.func44 (by kernel_rfl) rfl #[.slice A0 l0.length c0] rfl (by(try simp only[List.map_toArray,List.map_cons,List.map_nil]);first|done|rfl|(simp only[List.length_drop,List.length_take];rfl)) ?_;(with_reducible refine(spec_l00From.calls _ _ l0 aE bR bP w _ ?aK ?aJ ?aZ A2.out).mono ?_);(case aK=>repeat(first|(with_reducible first|exact HB.out|apply K'|apply F'|apply J')|exact HB.out));(case aJ=>exact dB.out);(case aZ=>exact dD.out);rintro e w8 ⟨aP,rfl,hi,hb,bO⟩;refine⟨_,rfl,?_⟩;have n0_:=A' (hb);have n1_:=A' (hi);clear HB;have HB:=n0_;have aA:=n1_;clear n0_ n1_;(try clear hb);(try clear bO);(try clear hk);(try clear hi))|((with_reducible refine gate_callee (f:=45) rfl ?_);refine goesL_ (some 9) rfl rfl Tryz.func45 (by kernel_rfl) rfl #[.pointer (some ⟨aP,0,none⟩)] rfl (by(try simp only[List.map_toArray,List.map_cons,List.map_nil]);first|done|rfl|(simp only[List.length_drop,List.length_take];rfl)) ?_;(with_reducible refine(spec_l05New.calls aP aE bR bP aM aQ aU bA bC w _ ?aK ?aJ A3.out).mono ?_);(case aK=>repeat(first|(with_reducible first|exact aA.out|apply IsS100.alloc|apply IsS100.drewN|apply IsS100.drew|apply IsS100.set_1|apply IsS100.set_2)|exact aA.out));(case aJ=>repeat(first|(with_reducible first|exact HB.out|apply K'|apply F'|apply J'|refine E' ?_ (IsS100.ge aA.out))|exact HB.out));rintro e w9 ⟨rfl,hi,hb,hk⟩;refine⟨_,rfl,?_⟩;replace HB:=A' (hb);replace aA:=A' (hi);(try clear hb);(try clear bO);(try clear hk);(try clear hi))|((with_reducible refine gate_dst (N:=4) rfl ?_);refine box_event ?hg (N:=4) ?hd (cs:=#[.int .i64 0,.int .i64 0,.bool false]) (t:=25) ?hr ?_;(case hd=>rfl);(case hg=>rfl);(case hr=>first|(go_simp;done)|(go_simp;rfl));intro aF hg cE hbox hb;have n0_:=A' (IsS100.below (qZ7_1 aA.out) hb);have n1_:=A' (W' (qZ7_2 HB.out (IsS100.ge aA.out)) hb);have n2_:=A' (hbox);have n3_:=A' ((by rw[hg];exact(V' (qZ7_2 HB.out (IsS100.ge aA.out))):w.heap.size≤aF));have n4_:=A' ((by rw[hg];exact(V' (qZ7_2 HB.out (IsS100.ge aA.out))):w.heap.size≤aF));have n5_:=A' ((by rw[hg];exact Nat.ne_of_lt (IsS100.lt (show IsS100 w _ aP aE bA bC from by repeat(first|(with_reducible first|exact aA.out|apply IsS100.alloc|apply IsS100.drewN|apply IsS100.drew|apply IsS100.set_1|apply IsS100.set_2)|exact aA.out))):aP≠aF));have n6_:=A' ((by rw[hg];exact Nat.ne_of_gt (IsS100.lt (show IsS100 w _ aP aE bA bC from by repeat(first|(with_reducible first|exact aA.out|apply IsS100.alloc|apply IsS100.drewN|apply IsS100.drew|apply IsS100.set_1|apply IsS100.set_2)|exact aA.out))):aF≠aP));clear aA;clear HB;have aA:=n0_;have HB:=n1_;have aD:=n2_;have cP:=n3_;have aI:=n4_;have aC:=n5_;have aL:=n6_;clear n0_ n1_ n2_ n3_ n4_ n5_ n6_;clear hb hbox hg;have cW:=aL.out;have cU:=aC.out;have bI:cE.cell? ⟨aF,0,none⟩=some (.int .i64 0):=(N' aD.out 0).trans rfl;have bL:cE.cell? ⟨aF,1,none⟩=some (.int .i64 0):=(N' aD.out 1).trans rfl;have bK:cE.cell? ⟨aF,2,none⟩=some (.bool false):=(N' aD.out 2).trans rfl;have bM:=Y' aD.out 0;have bJ:=Y' aD.out 1;have bH:=Y' aD.out 2)|((with_reducible refine gate_callee (f:=47) rfl ?_);refine goesL_ (some 11) rfl rfl Tryz.func47 (by kernel_rfl) rfl #[.pointer (some ⟨aP,0,none⟩),.pointer (some ⟨aF,0,none⟩)] rfl (by(try simp only[List.map_toArray,List.map_cons,List.map_nil]);first|done|rfl|(simp only[List.length_drop,List.length_take];rfl)) ?_;(with_reducible refine(spec_l07Draw.calls k aP aE bA bC aM aQ aU bG bB bE w _ ?aK ?aJ A4.out aF ((N' (show _=some (Obj.cells #[.int .i64 aM,.int .i64 aQ,.bool aU] 25 (0,0))from(by(with_reducible repeat(first|refine G' ?_ _|refine I' ?_|refine hA' ?_ _));refine blk_put (cs:=#[.int .i64 aM,.int .i64 aQ,.bool false]) ?_ 2 _ rfl;(with_reducible repeat(first|refine G' ?_ _|refine I' ?_|refine hA' ?_ _));refine blk_put (cs:=#[.int .i64 aM,.int .i64 0,.bool false]) ?_ 1 _ rfl;(with_reducible repeat(first|refine G' ?_ _|refine I' ?_|refine hA' ?_ _));refine blk_put (cs:=#[.int .i64 0,.int .i64 0,.bool false]) ?_ 0 _ rfl;(with_reducible repeat(first|refine G' ?_ _|refine I' ?_|refine hA' ?_ _));exact aD.out)) 0).trans rfl) ((N' (show _=some (Obj.cells #[.int .i64 aM,.int .i64 aQ,.bool aU] 25 (0,0))from(by(with_reducible repeat(first|refine G' ?_ _|refine I' ?_|refine hA' ?_ _));refine blk_put (cs:=#[.int .i64 aM,.int .i64 aQ,.bool false]) ?_ 2 _ rfl;(with_reducible repeat(first|refine G' ?_ _|refine I' ?_|refine hA' ?_ _));refine blk_put (cs:=#[.int .i64 aM,.int .i64 0,.bool false]) ?_ 1 _ rfl;(with_reducible repeat(first|refine G' ?_ _|refine I' ?_|refine hA' ?_ _));refine blk_put (cs:=#[.int .i64 0,.int .i64 0,.bool false]) ?_ 0 _ rfl;(with_reducible repeat(first|refine G' ?_ _|refine I' ?_|refine hA' ?_ _));exact aD.out)) 1).trans rfl) ((N' (show _=some (Obj.cells #[.int .i64 aM,.int .i64 aQ,.bool aU] 25 (0,0))from(by(with_reducible repeat(first|refine G' ?_ _|refine I' ?_|refine hA' ?_ _));refine blk_put (cs:=#[.int .i64 aM,.int .i64 aQ,.bool false]) ?_ 2 _ rfl;(with_reducible repeat(first|refine G' ?_ _|refine I' ?_|refine hA' ?_ _));refine blk_put (cs:=#[.int .i64 aM,.int .i64 0,.bool false]) ?_ 1 _ rfl;(with_reducible repeat(first|refine G' ?_ _|refine I' ?_|refine hA' ?_ _));refine blk_put (cs:=#[.int .i64 0,.int .i64 0,.bool false]) ?_ 0 _ rfl;(with_reducible repeat(first|refine G' ?_ _|refine I' ?_|refine hA' ?_ _));exact aD.out)) 2).trans rfl)).mono ?_);(case aK=>repeat(first|(with_reducible first|exact aA.out|apply IsS100.alloc|apply IsS100.drewN|apply IsS100.drew|apply IsS100.set_1|apply IsS100.set_2|refine IsS100.far ?_ aC.out _)|exact aA.out));(case aJ=>repeat(first|(with_reducible first|exact HB.out|apply K'|apply F'|apply J'|refine E' ?_ (IsS100.ge aA.out)|refine E' ?_ aI.out)|exact HB.out));rintro e dG ⟨dA,rfl,cV,hi,hb,hk⟩;refine⟨_,rfl,?_⟩;have n0_:=A' (KeepBut.blk hk (g':=aF) (o:=.cells #[.int .i64 aM,.int .i64 aQ,.bool aU] 25 (0,0)) (by(with_reducible repeat(first|refine G' ?_ _|refine I' ?_|refine hA' ?_ _));refine blk_put (cs:=#[.int .i64 aM,.int .i64 aQ,.bool false]) ?_ 2 _ rfl;(with_reducible repeat(first|refine G' ?_ _|refine I' ?_|refine hA' ?_ _));refine blk_put (cs:=#[.int .i64 aM,.int .i64 0,.bool false]) ?_ 1 _ rfl;(with_reducible repeat(first|refine G' ?_ _|refine I' ?_|refine hA' ?_ _));refine blk_put (cs:=#[.int .i64 0,.int .i64 0,.bool false]) ?_ 0 _ rfl;(with_reducible repeat(first|refine G' ?_ _|refine I' ?_|refine hA' ?_ _));exact aD.out) aL.out (by simp));have n1_:=A' (Kd.R_lower cV (V' (qZ7_3 HB.out (IsS100.ge aA.out) aI.out)));have n2_:=A' (hb);have n3_:=A' (hi);clear aD;clear HB;clear aA;have aD:=n0_;have aR:=n1_;have HB:=n2_;have aA:=n3_;clear n0_ n1_ n2_ n3_;(try clear hb);(try clear bO);(try clear hk);(try clear hi);(try clear cV);obtain⟨cI,cJ,cG⟩:=Kd.R_slice aR.out;subst cG)|((with_reducible refine gate_callee (f:=46) rfl ?_);refine goesL_ (some 12) rfl rfl Tryz.func46 (by kernel_rfl) rfl #[.slice cI bG.length cJ] rfl (by(try simp only[List.map_toArray,List.map_cons,List.map_nil]);first|done|rfl|(simp only[List.length_drop,List.length_take];rfl)) ?_;(with_reducible refine(spec_l07Text.calls k _ _ bG aG _ ?aK ?aJ A5.out).mono ?_);(case aK=>repeat(first|exact(Kd.R_reads' aR.out).2.2|(with_reducible refine R' ?_ _)|(with_reducible refine S' ?_ _)|(with_reducible refine T' ?_)));(case aJ=>exact(Kd.R_reads' aR.out).2.1);rintro e dL ⟨rfl,hb⟩;refine⟨_,rfl,?_⟩;have n0_:=A' (L' (qR aR.out) hb);have n1_:=A' (IsS100.below (qZ7_4 aA.out aC.out) hb);have n2_:=A' (O' (g:=aF) (qB aD.out) hb);have n3_:=A' (W' (qZ7_3 HB.out (IsS100.ge aA.out) aI.out) hb);clear aR;clear aA;clear aD;clear HB;have aR:=n0_;have aA:=n1_;have aD:=n2_;have HB:=n3_;clear n0_ n1_ n2_ n3_;(try clear hb);(try clear bO);(try clear hk);(try clear hi))|((with_reducible refine gate_callee (f:=48) rfl ?_);refine goesL_ (some 14) rfl rfl Tryz.func48 (by kernel_rfl) rfl #[.pointer (some ⟨aP,0,none⟩),.int .i64 6] rfl (by(try simp only[List.map_toArray,List.map_cons,List.map_nil]);first|done|rfl|(simp only[List.length_drop,List.length_take];rfl)) ?_;(with_reducible refine(spec_l00Src_pick.calls aP aE bB bE 6 aH aV aT w _ ?aK ?aJ A6.out).mono ?_);(case aK=>repeat(first|(with_reducible first|exact aA.out|apply IsS100.alloc|apply IsS100.drewN|apply IsS100.drew|apply IsS100.set_1|apply IsS100.set_2|refine IsS100.far ?_ aC.out _)|exact aA.out));(case aJ=>repeat(first|(with_reducible first|exact HB.out|apply K'|apply F'|apply J'|refine E' ?_ (IsS100.ge aA.out)|refine E' ?_ aI.out)|exact HB.out));rintro e dM ⟨rfl,hi,hb,hk⟩;refine⟨_,rfl,?_⟩;replace aD:=A' (KeepBut.blk hk (g':=aF) (o:=.cells #[.int .i64 aM,.int .i64 aQ,.bool aU] 25 (0,0)) (qB aD.out) aL.out (by simp));replace aR:=A' (Q' (Kd.R_keep (IsS100.apart (show IsS100 w _ aP aE bB bE from by repeat(first|(with_reducible first|exact aA.out|apply IsS100.alloc|apply IsS100.drewN|apply IsS100.drew|apply IsS100.set_1|apply IsS100.set_2|refine IsS100.far ?_ aC.out _)|exact aA.out)) (qR aR.out) (by decide)) hk (fun _ h=>h.2)) (fun _ h=>h.1));replace HB:=A' (hb);replace aA:=A' (hi);(try clear hb);(try clear bO);(try clear hk);(try clear hi)))
 (try simp only[Act.put,List.setIfInBounds_toArray,List.set_cons_zero,List.set_cons_succ])
 go_cut [15] (fun cZ wc=>∃(kq:Nat) (aY:Bool),cZ= .bool aY∧Aside0 (spec_DrawReadWay.j0 kq aG aH aY aE aV aT=some r)∧Aside0 (kq≤k)∧Aside0 (wc.heap[aF]? =some (.cells #[.int .i64 aM,.int .i64 aQ,.bool aU] 25 (0,0)))∧Aside0 (IsS100 w wc aP aE aV aT)∧Aside0 (Below w.heap.size w wc))
 case first=>
  have H:=cA.out;clear cA
  by_cases c17:aH=0
  ·rw[if_pos c17]at H;have c17b0:(aH == 0)=true:=beq_iff_eq.mpr c17;have c17b1:(aH != 0)=false:=bne_eq_false_iff_eq.mpr c17;clear c17;(first|rw[c17b0]|(simp only[i64_w,i32_w];rw[c17b0])|skip);have H':=A' H;clear H;go_wp2
   go_meet
   case rel=>exact⟨_,((aH == 0)),qS,H',⟨by first|omega|exact Nat.le_refl _⟩,⟨qB aD.out⟩,⟨qZ7_4 aA.out aC.out⟩,⟨qZ7_3 HB.out (IsS100.ge aA.out) aI.out⟩⟩
  ·rw[if_neg c17]at H;have c17b0:(aH == 0)=false:=beq_eq_false_iff_ne.mpr c17;have c17b1:(aH != 0)=true:=bne_iff_ne.mpr c17;(first|rw[c17b0]|(simp only[i64_w,i32_w];rw[c17b0])|skip);have H':=A' H;clear H;go_wp2
   go_meet
   case rel=>exact⟨_,((aH == 1)),qS,H',⟨by first|omega|exact Nat.le_refl _⟩,⟨qB aD.out⟩,⟨qZ7_4 aA.out aC.out⟩,⟨qZ7_3 HB.out (IsS100.ge aA.out) aI.out⟩⟩
 case rest=>
  clear cA;try clear c1
  try clear p2
  try clear c4
  try clear c11
  try clear c17
  try clear c17b0
  try clear c17b1
  try clear bI
  try clear bL
  try clear bK
  try clear bM
  try clear bJ
  try clear bH
  obtain⟨kq,aY,rfl,HA,dJ,aD,aA,HB⟩:=hcut
  cases kq with
  |zero=>exact absurd HA.out (by simp[spec_DrawReadWay.j0])
  |succ dK=>
   have H:=HA.out;clear HA;simp only[spec_DrawReadWay.j0]at H
   by_cases bZ:aY=true
   ·subst bZ;have H1:((spec_l01Spoil.f aE aV aT aG).bind fun bV=>(some bV.1))=some r:=by rw[if_pos rfl]at H;exact H
    clear H;have H:=H1;clear H1;replace H:=Option.bind_eq_some_iff.mp H;obtain⟨⟨bW,cK,cL⟩,bY,H⟩:=H;replace H:(some bW)=some r:=H;have cY:=A' bY;clear bY;obtain rfl:=Option.some.inj H;go_wp2_with (first|((with_reducible refine gate_callee (f:=49) rfl ?_);refine goesL_ (some 20) rfl rfl Tryz.func49 (by kernel_rfl) rfl #[.pointer (some ⟨aP,0,none⟩),.string aG] rfl (by(try simp only[List.map_toArray,List.map_cons,List.map_nil]);first|done|rfl|(simp only[List.length_drop,List.length_take];rfl)) ?_;(with_reducible refine(spec_l01Spoil.calls aP aE aV aT aG bW cK cL w _ ?aK ?aJ cY.out).mono ?_);(case aK=>repeat(first|(with_reducible first|exact aA.out|apply IsS100.alloc|apply IsS100.drewN|apply IsS100.drew|apply IsS100.set_1|apply IsS100.set_2|refine IsS100.far ?_ aC.out _)|exact aA.out));(case aJ=>repeat(first|(with_reducible first|exact HB.out|apply K'|apply F'|apply J'|refine E' ?_ (IsS100.ge aA.out)|refine E' ?_ aI.out)|exact HB.out));rintro e dI ⟨rfl,hi,hb,hk⟩;refine⟨_,rfl,?_⟩;replace aD:=A' (KeepBut.blk hk (g':=aF) (o:=.cells #[.int .i64 aM,.int .i64 aQ,.bool aU] 25 (0,0)) (qB aD.out) aL.out (by simp));replace HB:=A' (hb);replace aA:=A' (hi);(try clear hb);(try clear bO);(try clear hk);(try clear hi)));go_ret;exact⟨qE,qZ7_3 HB.out (IsS100.ge aA.out) aI.out⟩
   ·replace bZ:=Bool.eq_false_iff.mpr bZ;subst bZ;have H1:(if aH=2 then((spec_l00Src_text.f aE aV aT (([(⟨#[102,48,32,109,48,32,102,49,32,109,49,32,102,50,32,109,50,32,102,51,32,109,51]⟩:ByteArray),(⟨#[102,48,32,109,48,32,102,49,32,109,49,32,102,50,32,109,50,32,102,51,32,109,51,32,102,48]⟩:ByteArray),(⟨#[102,52]⟩:ByteArray),(⟨#[109,51]⟩:ByteArray),(⟨#[102,48,32,32,109,48]⟩:ByteArray),(⟨#[120,48]⟩:ByteArray)]:List ByteArray))).bind fun bF=>(some bF.1))else(some aG))=some r:=by rw[if_neg (show¬(false=true) by decide)]at H;exact H
    clear H;have H:=H1;clear H1
    by_cases c21:aH=2
    ·rw[if_pos c21]at H;have c21b0:(aH == 2)=true:=beq_iff_eq.mpr c21;have c21b1:(aH != 2)=false:=bne_eq_false_iff_eq.mpr c21;clear c21;obtain⟨bQ,aX⟩: ∃y_:List ByteArray,y_=(([(⟨#[102,48,32,109,48,32,102,49,32,109,49,32,102,50,32,109,50,32,102,51,32,109,51]⟩:ByteArray),(⟨#[102,48,32,109,48,32,102,49,32,109,49,32,102,50,32,109,50,32,102,51,32,109,51,32,102,48]⟩:ByteArray),(⟨#[102,52]⟩:ByteArray),(⟨#[109,51]⟩:ByteArray),(⟨#[102,48,32,32,109,48]⟩:ByteArray),(⟨#[120,48]⟩:ByteArray)]:List ByteArray)):=⟨_,rfl⟩
     replace H:((spec_l00Src_text.f aE aV aT bQ).bind fun bF=>(some bF.1))=some r:=by first|(rw[aX];with_reducible exact H)|(have H2_:=(Option.bind_some _ _).symm.trans H;rw[aX];with_reducible exact H2_)|(have H2_:=(Option.bind_some _ _).symm.trans H;with_reducible exact H2_)|with_reducible exact H|(rw[aX];exact H)|exact H
     have bN:=A' aX;clear aX;replace H:=Option.bind_eq_some_iff.mp H;obtain⟨⟨bU,cM,cD⟩,bT,H⟩:=H;replace H:(some bU)=some r:=H;have dC:=A' bT;clear bT;obtain rfl:=Option.some.inj H;go_wp2_with (first|((with_reducible refine gate_dst (N:=24) rfl ?_);refine Kd.R_lit Kd.string _ 9 ?hg (N:=24) ?hd (xs:=([(⟨#[102,48,32,109,48,32,102,49,32,109,49,32,102,50,32,109,50,32,102,51,32,109,51]⟩:ByteArray),(⟨#[102,48,32,109,48,32,102,49,32,109,49,32,102,50,32,109,50,32,102,51,32,109,51,32,102,48]⟩:ByteArray),(⟨#[102,52]⟩:ByteArray),(⟨#[109,51]⟩:ByteArray),(⟨#[102,48,32,32,109,48]⟩:ByteArray),(⟨#[120,48]⟩:ByteArray)]:List ByteArray)) (inner:=[.string (⟨#[102,48,32,109,48,32,102,49,32,109,49,32,102,50,32,109,50,32,102,51,32,109,51]⟩:ByteArray),.string (⟨#[102,48,32,109,48,32,102,49,32,109,49,32,102,50,32,109,50,32,102,51,32,109,51,32,102,48]⟩:ByteArray),.string (⟨#[102,52]⟩:ByteArray),.string (⟨#[109,51]⟩:ByteArray),.string (⟨#[102,48,32,32,109,48]⟩:ByteArray),.string (⟨#[120,48]⟩:ByteArray)]) (ok:=fun _=>True) (okp:=fun _=>True) ?hr ?hp (fun _ hk=>hk) trivial (Below.refl _ _) (Nat.le_refl _) (by simp) ?_;(case hd=>rfl);(case hg=>rfl);(case hr=>first|(go_simp;done)|(go_simp;rfl));(case hp=>exact(Reps.one (show Kd.M Kd.string _ _ _ (⟨#[102,48,32,109,48,32,102,49,32,109,49,32,102,50,32,109,50,32,102,51,32,109,51]⟩:ByteArray) [.string (⟨#[102,48,32,109,48,32,102,49,32,109,49,32,102,50,32,109,50,32,102,51,32,109,51]⟩:ByteArray)]from rfl) (Reps.one (show Kd.M Kd.string _ _ _ (⟨#[102,48,32,109,48,32,102,49,32,109,49,32,102,50,32,109,50,32,102,51,32,109,51,32,102,48]⟩:ByteArray) [.string (⟨#[102,48,32,109,48,32,102,49,32,109,49,32,102,50,32,109,50,32,102,51,32,109,51,32,102,48]⟩:ByteArray)]from rfl) (Reps.one (show Kd.M Kd.string _ _ _ (⟨#[102,52]⟩:ByteArray) [.string (⟨#[102,52]⟩:ByteArray)]from rfl) (Reps.one (show Kd.M Kd.string _ _ _ (⟨#[109,51]⟩:ByteArray) [.string (⟨#[109,51]⟩:ByteArray)]from rfl) (Reps.one (show Kd.M Kd.string _ _ _ (⟨#[102,48,32,32,109,48]⟩:ByteArray) [.string (⟨#[102,48,32,32,109,48]⟩:ByteArray)]from rfl) (Reps.one (show Kd.M Kd.string _ _ _ (⟨#[120,48]⟩:ByteArray) [.string (⟨#[120,48]⟩:ByteArray)]from rfl) (Reps.none _ _))))))));intro dE dH bD hb hg_ hnew_;clear hg_ hnew_;(first|rw[← bN.out]at bD|(simp only[Int.reduceToNat]at bD;rw[← bN.out]at bD));have n0_:=A' (Kd.R_lower bD (V' (qZ7_3 HB.out (IsS100.ge aA.out) aI.out)));have n1_:=A' (O' (g:=aF) (qB aD.out) hb);have n2_:=A' (IsS100.below (qZ7_4 aA.out aC.out) hb);have n3_:=A' (W' (qZ7_3 HB.out (IsS100.ge aA.out) aI.out) hb);clear aD;clear aA;clear HB;have aW:=n0_;have aD:=n1_;have aA:=n2_;have HB:=n3_;clear n0_ n1_ n2_ n3_;clear hb bD;obtain⟨cC,cF,cH⟩:=Kd.R_slice aW.out;subst cH)|((with_reducible refine gate_callee (f:=50) rfl ?_);refine goesL_ (some 25) rfl rfl Tryz.func50 (by kernel_rfl) rfl #[.pointer (some ⟨aP,0,none⟩),.slice cC bQ.length cF] rfl (by(try simp only[List.map_toArray,List.map_cons,List.map_nil]);first|done|rfl|(simp only[List.length_drop,List.length_take];rfl)) ?_;(with_reducible refine(spec_l00Src_text.calls aP aE aV aT _ _ bQ bU cM cD w _ ?aK ?aJ ?aZ ?bS ?bX dC.out).mono ?_);(case aK=>repeat(first|(with_reducible first|exact aA.out|apply IsS100.alloc|apply IsS100.drewN|apply IsS100.drew|apply IsS100.set_1|apply IsS100.set_2|refine IsS100.far ?_ aC.out _)|exact aA.out));(case aJ=>repeat(first|(with_reducible first|exact HB.out|apply K'|apply F'|apply J'|refine E' ?_ (IsS100.ge aA.out)|refine E' ?_ aI.out)|exact HB.out));(case aZ=>repeat(first|exact(Kd.R_reads' aW.out).2.2|(with_reducible refine R' ?_ _)|(with_reducible refine S' ?_ _)|(with_reducible refine T' ?_)));(case bS=>exact(Kd.R_reads' aW.out).2.1);(case bX=>exact far_slice (IsS100.own_ne aA.out aW.out (by decide)));rintro e dN ⟨rfl,hi,hb,hk⟩;refine⟨_,rfl,?_⟩;replace aD:=A' (KeepBut.blk hk (g':=aF) (o:=.cells #[.int .i64 aM,.int .i64 aQ,.bool aU] 25 (0,0)) (qB aD.out) aL.out (by simp));replace aW:=A' (Q' (Kd.R_keep (IsS100.apart (show IsS100 w _ aP aE aV aT from by repeat(first|(with_reducible first|exact aA.out|apply IsS100.alloc|apply IsS100.drewN|apply IsS100.drew|apply IsS100.set_1|apply IsS100.set_2|refine IsS100.far ?_ aC.out _)|exact aA.out)) (qR aW.out) (by decide)) hk (fun _ h=>h.2)) (fun _ h=>h.1));replace HB:=A' (hb);replace aA:=A' (hi);(try clear hb);(try clear bO);(try clear hk);(try clear hi)));go_ret;exact⟨qE,qZ7_3 HB.out (IsS100.ge aA.out) aI.out⟩
    ·rw[if_neg c21]at H;have c21b0:(aH == 2)=false:=beq_eq_false_iff_ne.mpr c21;have c21b1:(aH != 2)=true:=bne_iff_ne.mpr c21;obtain rfl:=Option.some.inj H;go_wp2;go_ret;exact⟨qE,qZ7_3 HB.out (IsS100.ge aA.out) aI.out⟩
/-! ### spec_l01Split: function 51 -/
def spec_l01Split.l0:Nat→ByteArray→Int→List ByteArray→Int→Int→Option (List ByteArray)
 |0,_,_,_,_,_=>none
 |k+1,x0,x1,x5,x6,x7=>if x7<(x0.size:Int)then(if 0≤x7 then(if(bt x0 x7)=x1 then(if 0≤x6 then(if x6≤x7 then(if x7≤(x0.size:Int)then(if x5.length<8796093022208 then(spec_l01Split.l0 k x0 x1 (x5 ++ [x0.extract (x6:Int).toNat (x7:Int).toNat]) (wrap64 (x7+1)) (wrap64 (x7+1)))else(none))else(none))else(none))else(none))else(spec_l01Split.l0 k x0 x1 x5 x6 (wrap64 (x7+1))))else(none))else(if 0≤x6 then(if x6≤(x0.size:Int)then(if x5.length<8796093022208 then(some (x5 ++ [x0.extract (x6:Int).toNat x0.size]))else(none))else(none))else(none))
def spec_l01Split.f (k:Nat) (a0:ByteArray) (a1:Int):Option (List ByteArray):=spec_l01Split.l0 k a0 a1 (([]:List ByteArray)) 0 0
theorem spec_l01Split.mono_l: ∀k,(∀y0 y1 y2 y3 y4,LeO (spec_l01Split.l0 k y0 y1 y2 y3 y4) (spec_l01Split.l0 (k+1) y0 y1 y2 y3 y4))
 |0=>fun _ _ _ _ _ r h=>by simp[spec_l01Split.l0]at h
 |k+1=>by
  have aA:=spec_l01Split.mono_l k
  ·intro y0 y1 y2 y3 y4
   unfold spec_l01Split.l0
   repeat' first
   |(with_reducible exact aA _ _ _ _ _)
   |(with_reducible exact LeO.refl _)
   |(with_reducible exact LeO.none _)
   |(with_reducible refine LeO.ite ?_ ?_)
   |(with_reducible refine LeO.bind ?_ (fun _=>?_))
   |exact LeO.none _
   |refine LeO.ite ?_ ?_
   |refine LeO.bind ?_ (fun _=>?_)
theorem spec_l01Split.mono: ∀a0 a1 k,LeO (spec_l01Split.f k a0 a1) (spec_l01Split.f (k+1) a0 a1):=by
 intro a0 a1 k
 have aA:=spec_l01Split.mono_l k
 unfold spec_l01Split.f
 repeat' first
   |(with_reducible exact aA _ _ _ _ _)
   |(with_reducible exact LeO.refl _)
   |(with_reducible exact LeO.none _)
   |(with_reducible refine LeO.ite ?_ ?_)
   |(with_reducible refine LeO.bind ?_ (fun _=>?_))
   |exact LeO.none _
   |refine LeO.ite ?_ ?_
   |refine LeO.bind ?_ (fun _=>?_)
set_option maxHeartbeats 8000000 in
set_option maxRecDepth 100000 in
theorem spec_l01Split.calls (k:Nat) (a0:ByteArray) (a1:Int) (r:List ByteArray) (w:World) (h:spec_l01Split.f k a0 a1=some r):
  Calls Tryz.prog 51 #[.string a0,.int .u8 a1] w fun e w'=>∃v0_:Value,e= .returned (v0_)∧Kd.R Kd.string 9 w' w.heap.size (fun _=>True) v0_ r∧Below w.heap.size w w':=by
 have HB:=A' (Below.refl w.heap.size w);have H:(spec_l01Split.l0 k a0 a1 (([]:List ByteArray)) 0 0)=some r:=h;clear h;obtain⟨aT,aG⟩: ∃y_:List ByteArray,y_=(([]:List ByteArray)):=⟨_,rfl⟩
 replace H:(spec_l01Split.l0 k a0 a1 aT 0 0)=some r:=by first|(rw[aG];with_reducible exact H)|(have H2_:=(Option.bind_some _ _).symm.trans H;rw[aG];with_reducible exact H2_)|(have H2_:=(Option.bind_some _ _).symm.trans H;with_reducible exact H2_)|with_reducible exact H|(rw[aG];exact H)|exact H
 have aI:=A' aG;clear aG;have H':=A' H;clear H;go_enter Tryz.func51,Tryz.ntmps51;go_wp2_with (first|((with_reducible refine gate_dst (N:=8) rfl ?_);refine Kd.R_lit Kd.string _ 9 ?hg (N:=8) ?hd (xs:=([]:List ByteArray)) (inner:=[]) (ok:=fun _=>True) (okp:=fun _=>True) ?hr ?hp (fun _ hk=>hk) trivial (Below.refl _ _) (Nat.le_refl _) (by simp) ?_;(case hd=>rfl);(case hg=>rfl);(case hr=>first|(go_simp;done)|(go_simp;rfl));(case hp=>exact(Reps.none _ _));intro bA w3 aR hb hg_ hnew_;clear hg_ hnew_;(first|rw[← aI.out]at aR|(simp only[Int.reduceToNat]at aR;rw[← aI.out]at aR));have n0_:=A' (Kd.R_lower aR (V' (qK0 HB.out)));have n1_:=A' (W' (qK0 HB.out) hb);clear HB;have aN:=n0_;have HB:=n1_;clear n0_ n1_;clear hb aR))
 go_loopg [5,6,7] k (fun kq v5 v6 v7 w'=>∃(aD:List ByteArray) (aC:Int) (aA:Int),v6= .int .i64 aC∧v7= .int .i64 aA∧Aside0 (spec_l01Split.l0 kq a0 a1 aD aC aA=some r)∧Aside0 (kq≤k)∧Aside0 (Kd.R Kd.string 9 w' w.heap.size (fun _=>True) v5 aD)∧Aside0 (Below w.heap.size w w'))
 case atStart=>exact⟨(aT),(0),(0),qS,qS,H',⟨Nat.le_refl _⟩,⟨qR aN.out⟩,⟨qK0 HB.out⟩⟩
 case round=>
  clear H';try clear p2
  obtain⟨aD,aC,aA,rfl,rfl,HA,aX,HO_5,HB⟩:=hrel
  cases gk with
  |zero=>exact absurd HA.out (by simp[spec_l01Split.l0])
  |succ k1=>
   have H:=HA.out;clear HA;simp only[spec_l01Split.l0]at H
   by_cases c5:aA<(a0.size:Int)
   ·rw[if_pos c5]at H;have c5b0:decide (aA<(a0.size:Int))=true:=dT' c5;clear c5
    by_cases c6:0≤aA
    ·rw[if_pos c6]at H;have c6b0:decide (0≤aA)=true:=dT' c6;clear c6
     by_cases c8:(bt a0 aA)=a1
     ·rw[if_pos c8]at H;have c8b0:((bt a0 aA) == a1)=true:=beq_iff_eq.mpr c8;have c8b1:((bt a0 aA) != a1)=false:=bne_eq_false_iff_eq.mpr c8;clear c8
      by_cases c9:0≤aC
      ·rw[if_pos c9]at H;have c9b0:=eq_true c9;have c9b1:decide (0≤aC)=true:=dT' c9;clear c9
       by_cases c10:aC≤aA
       ·rw[if_pos c10]at H;have c10b0:=eq_true c10;have c10b1:decide (aC≤aA)=true:=dT' c10;clear c10
        by_cases c11:aA≤(a0.size:Int)
        ·rw[if_pos c11]at H;have c11b0:=eq_true c11;have c11b1:decide (aA≤(a0.size:Int))=true:=dT' c11;clear c11
         by_cases c12:aD.length<8796093022208
         ·rw[if_pos c12]at H;have aQ:=A' c12;clear c12;obtain⟨aM,aH⟩: ∃y_:List ByteArray,y_=(aD ++ [a0.extract (aC:Int).toNat (aA:Int).toNat]):=⟨_,rfl⟩
          replace H:(spec_l01Split.l0 k1 a0 a1 aM (wrap64 (aA+1)) (wrap64 (aA+1)))=some r:=by first|(rw[aH];with_reducible exact H)|(have H2_:=(Option.bind_some _ _).symm.trans H;rw[aH];with_reducible exact H2_)|(have H2_:=(Option.bind_some _ _).symm.trans H;with_reducible exact H2_)|with_reducible exact H|(rw[aH];exact H)|exact H
          have aV:=A' aH;clear aH;have H':=A' H;clear H;have p7:0≤(aA:Int):=oD' qA;have q7:aA<(a0.size:Int):=oD' qA;have bB:=bt_at a0 aA;replace p7:=eq_true p7;replace q7:=eq_true q7;go_wp2_with (first|((with_reducible refine gate_builtin (b:=.append) (xs:=#[.tmp 20,.tmp 25]) rfl ?_);at_builtin;refine Kd.R_append Kd.string (w0:=w) w.heap.size rfl (.tmp 20) (.tmp 25) 65 9 (.string ⟨#[]⟩) 16 rfl Tryz.underlying65 info9 rfl (by decide) (by omega) u5 aD (a0.extract (aC:Int).toNat (aA:Int).toNat) [.string (a0.extract (aC:Int).toNat (aA:Int).toNat)] (fun _=>True) (fun _=>False) rfl rfl ?aP (fun _ hk=>hk.elim) ?aF ?aO ?aB ?aS ?aL ?_;(case aP=>exact rfl);(case aB=>exact(qK0 HB.out));(case aF=>exact(fun _ _=>trivial));(case aO=>exact(qR HO_5.out));(case aS=>exact(V' (qK0 HB.out)));(case aL=>have:=aQ.out;omega);intro bC bD ho hb hg hat;rw[← aV.out]at ho;have n0_:=A' (hb);have n1_:=A' (ho);clear HB;clear HO_5;have HB:=n0_;have aJ:=n1_;clear n0_ n1_;clear ho hb hg hat))
          go_roundg k1
          case measure=>have:=aX.out;omega
          case rel=>exact⟨(aM),(wrap64 (aA+1)),(wrap64 (aA+1)),qS,qS,H',⟨by have:=aX.out;omega⟩,⟨qR aJ.out⟩,⟨qK0 HB.out⟩⟩
         ·rw[if_neg c12]at H;exact absurd H (by simp)
        ·rw[if_neg c11]at H;exact absurd H (by simp)
       ·rw[if_neg c10]at H;exact absurd H (by simp)
      ·rw[if_neg c9]at H;exact absurd H (by simp)
     ·rw[if_neg c8]at H;have c8b0:((bt a0 aA) == a1)=false:=beq_eq_false_iff_ne.mpr c8;have c8b1:((bt a0 aA) != a1)=true:=bne_iff_ne.mpr c8;have H':=A' H;clear H;have p7:0≤(aA:Int):=oD' qA;have q7:aA<(a0.size:Int):=oD' qA;have bB:=bt_at a0 aA;replace p7:=eq_true p7;replace q7:=eq_true q7;go_wp2
      go_roundg k1
      case measure=>have:=aX.out;omega
      case rel=>exact⟨(aD),(aC),(wrap64 (aA+1)),qS,qS,H',⟨by have:=aX.out;omega⟩,⟨qR HO_5.out⟩,⟨qK0 HB.out⟩⟩
    ·rw[if_neg c6]at H;exact absurd H (by simp)
   ·rw[if_neg c5]at H;have c5b0:decide (aA<(a0.size:Int))=false:=dF' c5;clear c5
    by_cases c14:0≤aC
    ·rw[if_pos c14]at H;have c14b0:=eq_true c14;have c14b1:decide (0≤aC)=true:=dT' c14;clear c14
     by_cases c15:aC≤(a0.size:Int)
     ·rw[if_pos c15]at H;have c15b0:=eq_true c15;have c15b1:decide (aC≤(a0.size:Int))=true:=dT' c15;clear c15
      by_cases c16:aD.length<8796093022208
      ·rw[if_pos c16]at H;have aK:=A' c16;clear c16;obtain⟨aY,aE⟩: ∃y_:List ByteArray,y_=(aD ++ [a0.extract (aC:Int).toNat a0.size]):=⟨_,rfl⟩
       replace H:(some aY)=some r:=by first|(rw[aE];with_reducible exact H)|(have H2_:=(Option.bind_some _ _).symm.trans H;rw[aE];with_reducible exact H2_)|(have H2_:=(Option.bind_some _ _).symm.trans H;with_reducible exact H2_)|with_reducible exact H|(rw[aE];exact H)|exact H
       have aU:=A' aE;clear aE;obtain rfl:=Option.some.inj H;go_wp2_with (first|((with_reducible refine gate_builtin (b:=.append) (xs:=#[.tmp 29,.tmp 33]) rfl ?_);at_builtin;refine Kd.R_append Kd.string (w0:=w) w.heap.size rfl (.tmp 29) (.tmp 33) 65 9 (.string ⟨#[]⟩) 16 rfl Tryz.underlying65 info9 rfl (by decide) (by omega) u5 aD (a0.extract (aC:Int).toNat a0.size) [.string (a0.extract (aC:Int).toNat a0.size)] (fun _=>True) (fun _=>False) rfl rfl ?aP (fun _ hk=>hk.elim) ?aF ?aO ?aB ?aS ?aL ?_;(case aP=>exact rfl);(case aB=>exact(qK0 HB.out));(case aF=>exact(fun _ _=>trivial));(case aO=>exact(qR HO_5.out));(case aS=>exact(V' (qK0 HB.out)));(case aL=>have:=aK.out;omega);intro aZ bE ho hb hg hat;rw[← aU.out]at ho;have n0_:=A' (hb);have n1_:=A' (ho);clear HB;clear HO_5;have HB:=n0_;have aW:=n1_;clear n0_ n1_;clear ho hb hg hat));go_ret;exact⟨_,qE,qR aW.out,qK0 HB.out⟩
      ·rw[if_neg c16]at H;exact absurd H (by simp)
     ·rw[if_neg c15]at H;exact absurd H (by simp)
    ·rw[if_neg c14]at H;exact absurd H (by simp)
end Go.Proofs.YtifdihbndlmgpaaGreatDoor.HWys
