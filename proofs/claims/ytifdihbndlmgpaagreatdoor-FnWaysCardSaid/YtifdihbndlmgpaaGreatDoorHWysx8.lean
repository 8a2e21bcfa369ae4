-- Written by a program for this claim (the functions that the statement reaches, and that the program's code comes to them).
import Derived.Test.YtifdihbndlmgpaaGreatDoorHWysx0
import Derived.Test.YtifdihbndlmgpaaGreatDoorHWysx1
import Derived.Test.YtifdihbndlmgpaaGreatDoorHWysx2
import Derived.Test.YtifdihbndlmgpaaGreatDoorHWysx3
import Derived.Test.YtifdihbndlmgpaaGreatDoorHWysx5
import Derived.Test.YtifdihbndlmgpaaGreatDoorHWysx7
namespace Go.Proofs.YtifdihbndlmgpaaGreatDoor.HWys
open Go.RowKit Go.Proofs.YtifdihbndlmgpaaGreatDoorW.PrintWords Go.Proofs.YtifdihbndlmgpaaGreatDoorW.PrintLast Go.Proofs.YtifdihbndlmgpaaGreatDoorW.PrintMore
attribute [local go_sem] max2_int min2_int max_two min_two max_three min_three max_four min_four
set_option linter.unusedVariables false
set_option linter.unusedSimpArgs false
attribute [local go_sem high] eqA51
/-! ### spec_ReadWay: function 19 -/
mutual
def spec_ReadWay.l0:Nat→List ByteArray→List (S51)→Int→Option ((List (S51))×Bool)
 |0,_,_,_=>none
 |k+1,x4,x5,x6=>if x6<(x4.length:Int)then(if 0≤x6 then(if((rdOf ByteArray.empty x4 x6).size:Int)=2 then(if 0<((rdOf ByteArray.empty x4 x6).size:Int)then(if(bt (rdOf ByteArray.empty x4 x6) 0)=102 then(if 1<((rdOf ByteArray.empty x4 x6).size:Int)then(if(bt (rdOf ByteArray.empty x4 x6) 1)<48 then(spec_ReadWay.j1 k x4 x5 x6 true)else(spec_ReadWay.j1 k x4 x5 x6 (decide ((bt (rdOf ByteArray.empty x4 x6) 1)≥52))))else(none))else(if(bt (rdOf ByteArray.empty x4 x6) 0)=109 then(if 1<((rdOf ByteArray.empty x4 x6).size:Int)then(if(bt (rdOf ByteArray.empty x4 x6) 1)<48 then(spec_ReadWay.j1 k x4 x5 x6 true)else(spec_ReadWay.j1 k x4 x5 x6 (decide ((bt (rdOf ByteArray.empty x4 x6) 1)≥52))))else(none))else(spec_ReadWay.j1 k x4 x5 x6 true)))else(none))else(spec_ReadWay.j1 k x4 x5 x6 true))else(none))else(if(x5.length:Int) > 8 then(some (([]:List (S51)),false))else(some (x5,true)))
def spec_ReadWay.j1:Nat→List ByteArray→List (S51)→Int→Bool→Option ((List (S51))×Bool)
 |0,_,_,_,_=>none
 |k+1,x4,x5,x6,aA=>if aA=true then(some (([]:List (S51)),false))else(if 0≤x6 then(if x6<(x4.length:Int)then(if 1<((rdOf ByteArray.empty x4 x6).size:Int)then(if 0<((rdOf ByteArray.empty x4 x6).size:Int)then(if(bt (rdOf ByteArray.empty x4 x6) 0)=109 then(if x5.length<8796093022208 then(spec_ReadWay.l0 k x4 (x5 ++ [(⟨1,((bt (rdOf ByteArray.empty x4 x6) 1) - 48) % 256⟩:S51)]) (wrap64 (x6+1)))else(none))else(if x5.length<8796093022208 then(spec_ReadWay.l0 k x4 (x5 ++ [(⟨0,((bt (rdOf ByteArray.empty x4 x6) 1) - 48) % 256⟩:S51)]) (wrap64 (x6+1)))else(none)))else(none))else(none))else(none))else(none))
end
def spec_ReadWay.f (k:Nat) (a0:ByteArray):Option ((List (S51))×Bool):=(spec_l01Split.f k a0 32).bind fun aA=>(spec_ReadWay.l0 k aA (([]:List (S51))) 0)
theorem spec_ReadWay.mono_l: ∀k,(∀y0 y1 y2,LeO (spec_ReadWay.l0 k y0 y1 y2) (spec_ReadWay.l0 (k+1) y0 y1 y2))∧(∀y0 y1 y2 y3,LeO (spec_ReadWay.j1 k y0 y1 y2 y3) (spec_ReadWay.j1 (k+1) y0 y1 y2 y3))
 |0=>⟨fun _ _ _ r h=>by simp[spec_ReadWay.l0]at h,fun _ _ _ _ r h=>by simp[spec_ReadWay.j1]at h⟩
 |k+1=>by
  obtain⟨aB,aA⟩:=spec_ReadWay.mono_l k
  refine⟨?_,?_⟩
  ·intro y0 y1 y2
   unfold spec_ReadWay.l0
   repeat' first
   |(with_reducible exact aB _ _ _)
   |(with_reducible exact aA _ _ _ _)
   |(with_reducible exact spec_l01Split.mono _ _ _)
   |(with_reducible exact LeO.refl _)
   |(with_reducible exact LeO.none _)
   |(with_reducible refine LeO.ite ?_ ?_)
   |(with_reducible refine LeO.bind ?_ (fun _=>?_))
   |exact LeO.none _
   |refine LeO.ite ?_ ?_
   |refine LeO.bind ?_ (fun _=>?_)
  ·intro y0 y1 y2 y3
   unfold spec_ReadWay.j1
   repeat' first
   |(with_reducible exact aB _ _ _)
   |(with_reducible exact aA _ _ _ _)
   |(with_reducible exact spec_l01Split.mono _ _ _)
   |(with_reducible exact LeO.refl _)
   |(with_reducible exact LeO.none _)
   |(with_reducible refine LeO.ite ?_ ?_)
   |(with_reducible refine LeO.bind ?_ (fun _=>?_))
   |exact LeO.none _
   |refine LeO.ite ?_ ?_
   |refine LeO.bind ?_ (fun _=>?_)
theorem spec_ReadWay.mono: ∀a0 k,LeO (spec_ReadWay.f k a0) (spec_ReadWay.f (k+1) a0):=by
 intro a0 k
 obtain⟨aA,aB⟩:=spec_ReadWay.mono_l k
 unfold spec_ReadWay.f
 repeat' first
   |(with_reducible exact aA _ _ _)
   |(with_reducible exact aB _ _ _ _)
   |(with_reducible exact spec_l01Split.mono _ _ _)
   |(with_reducible exact LeO.refl _)
   |(with_reducible exact LeO.none _)
   |(with_reducible refine LeO.ite ?_ ?_)
   |(with_reducible refine LeO.bind ?_ (fun _=>?_))
   |exact LeO.none _
   |refine LeO.ite ?_ ?_
   |refine LeO.bind ?_ (fun _=>?_)
set_option maxHeartbeats 8000000 in
set_option maxRecDepth 100000 in
theorem spec_ReadWay.calls (k:Nat) (a0:ByteArray) (r1:List (S51)) (r2:Bool) (w:World) (h:spec_ReadWay.f k a0=some (r1,r2)):
  Calls Tryz.prog 19 #[.string a0] w fun e w'=>∃v0_:Value,e= .returned (.tuple #[v0_,.bool r2])∧Kd.R k51 51 w' w.heap.size (fun _=>True) v0_ r1∧Below w.heap.size w w':=by
 have fM:=Tryz.underlying51;have HB:=A' (Below.refl w.heap.size w);have H:((spec_l01Split.f k a0 32).bind fun aC=>(spec_ReadWay.l0 k aC (([]:List (S51))) 0))=some (r1,r2):=h;clear h;replace H:=Option.bind_eq_some_iff.mp H;obtain⟨aC,eY,H⟩:=H;replace H:(spec_ReadWay.l0 k aC (([]:List (S51))) 0)=some (r1,r2):=H;have A2:=A' eY;clear eY;obtain⟨dF,bE⟩: ∃y_:List (S51),y_=(([]:List (S51))):=⟨_,rfl⟩
 replace H:(spec_ReadWay.l0 k aC dF 0)=some (r1,r2):=by first|(rw[bE];with_reducible exact H)|(have H2_:=(Option.bind_some _ _).symm.trans H;rw[bE];with_reducible exact H2_)|(have H2_:=(Option.bind_some _ _).symm.trans H;with_reducible exact H2_)|with_reducible exact H|(rw[bE];exact H)|exact H
 have cL:=A' bE;clear bE;have H':=A' H;clear H;go_enter Tryz.func19,Tryz.ntmps19;go_wp2_with (first|((with_reducible refine gate_callee (f:=51) rfl ?_);refine goesL_ (some 9) rfl rfl Tryz.func51 (by kernel_rfl) rfl #[.string a0,.int .u8 32] rfl (by(try simp only[List.map_toArray,List.map_cons,List.map_nil]);first|done|rfl|(simp only[List.length_drop,List.length_take];rfl)) ?_;(with_reducible refine(spec_l01Split.calls k a0 32 aC _ A2.out).mono ?_);rintro e w3 ⟨eD,rfl,eZ,hb⟩;refine⟨_,rfl,?_⟩;have n0_:=A' (Kd.R_lower eZ (V' (qK0 HB.out)));have n1_:=A' (W' (qK0 HB.out) hb);clear HB;have bR:=n0_;have HB:=n1_;clear n0_ n1_;(try clear hb);(try clear hb2);(try clear hk);(try clear hi);(try clear eZ))|((with_reducible refine gate_dst (N:=10) rfl ?_);refine Kd.R_lit k51 _ 51 ?hg (N:=10) ?hd (xs:=([]:List (S51))) (inner:=[]) (ok:=fun _=>True) (okp:=fun _=>True) ?hr ?hp (fun _ hk=>hk) trivial (Below.refl _ _) (Nat.le_refl _) (by simp) ?_;(case hd=>rfl);(case hg=>rfl);(case hr=>first|(go_simp;done)|(go_simp;rfl));(case hp=>exact(Reps.none _ _));intro fH w4 dM hb hg_ hnew_;clear hg_ hnew_;(first|rw[← cL.out]at dM|(simp only[Int.reduceToNat]at dM;rw[← cL.out]at dM));have n0_:=A' (L' (qR bR.out) hb);have n1_:=A' (Kd.R_lower dM (V' (qK0 HB.out)));have n2_:=A' (W' (qK0 HB.out) hb);clear bR;clear HB;have bR:=n0_;have dO:=n1_;have HB:=n2_;clear n0_ n1_ n2_;clear hb dM))
 go_loopg [5,6] k (fun kq v5 v6 w'=>∃(aQ:List (S51)) (aA:Int),v6= .int .i64 aA∧Aside0 (spec_ReadWay.l0 kq aC aQ aA=some (r1,r2))∧Aside0 (kq≤k)∧Aside0 (Kd.R Kd.string 9 w' w.heap.size (fun _=>True) eD aC)∧Aside0 (Kd.R k51 51 w' w.heap.size (fun _=>True) v5 aQ)∧Aside0 (Below w.heap.size w w'))
 case atStart=>exact⟨(dF),(0),qS,H',⟨Nat.le_refl _⟩,⟨qR bR.out⟩,⟨qR dO.out⟩,⟨qK0 HB.out⟩⟩
 case round=>
  clear H';try clear c1
  try clear p2
  try clear c5
  obtain⟨aQ,aA,rfl,HA,cD,HO_4,HO_5,HB⟩:=hrel
  cases gk with
  |zero=>exact absurd HA.out (by simp[spec_ReadWay.l0])
  |succ k1=>
   have H:=HA.out;clear HA;simp only[spec_ReadWay.l0]at H
   by_cases c6:aA<(aC.length:Int)
   ·rw[if_pos c6]at H;have c6b0:decide (aA<(aC.length:Int))=true:=dT' c6;clear c6;have eF:=A' H;clear H;obtain⟨fQ,fP,fI⟩:=Kd.R_slice HO_4.out;subst fI;go_upto_region 6 with (fail)
    go_cut [54] (fun fB wc=>∃(kq:Nat) (bT:Bool),fB= .bool bT∧Aside0 (spec_ReadWay.j1 kq aC aQ aA bT=some (r1,r2))∧Aside0 (kq≤k1)∧Aside0 (Kd.R Kd.string 9 wc w.heap.size (fun _=>True) (.slice fQ aC.length fP) aC)∧Aside0 (Kd.R k51 51 wc w.heap.size (fun _=>True) u5 aQ)∧Aside0 (Below w.heap.size w wc))
    case first=>
     have H:=eF.out;clear eF
     by_cases c9:0≤aA
     ·rw[if_pos c9]at H;have c9b0:decide (0≤aA)=true:=dT' c9;clear c9;(first|rw[c9b0]|(simp only[i64_w,i32_w];rw[c9b0])|skip)
      by_cases c10:((rdOf ByteArray.empty aC aA).size:Int)=2
      ·rw[if_pos c10]at H;have c10b0:(((rdOf ByteArray.empty aC aA).size:Int) == 2)=true:=beq_iff_eq.mpr c10;have c10b1:(((rdOf ByteArray.empty aC aA).size:Int) != 2)=false:=bne_eq_false_iff_eq.mpr c10;clear c10
       by_cases c11:0<((rdOf ByteArray.empty aC aA).size:Int)
       ·rw[if_pos c11]at H;have c11b0:decide (0<((rdOf ByteArray.empty aC aA).size:Int))=true:=dT' c11;have c11b1:decide (0<(rdOf ByteArray.empty aC aA).size)=true:=dT' (by omega);clear c11
        by_cases c13:(bt (rdOf ByteArray.empty aC aA) 0)=102
        ·rw[if_pos c13]at H;have c13b0:((bt (rdOf ByteArray.empty aC aA) 0) == 102)=true:=beq_iff_eq.mpr c13;have c13b1:((bt (rdOf ByteArray.empty aC aA) 0) != 102)=false:=bne_eq_false_iff_eq.mpr c13;clear c13
         by_cases c14:1<((rdOf ByteArray.empty aC aA).size:Int)
         ·rw[if_pos c14]at H;have c14b0:decide (1<((rdOf ByteArray.empty aC aA).size:Int))=true:=dT' c14;have c14b1:decide (1<(rdOf ByteArray.empty aC aA).size)=true:=dT' (by omega);clear c14
          by_cases c16:(bt (rdOf ByteArray.empty aC aA) 1)<48
          ·rw[if_pos c16]at H;have c16b0:decide ((bt (rdOf ByteArray.empty aC aA) 1)<48)=true:=dT' c16;clear c16;have H':=A' H;clear H;have aM:0≤(aA:Int):=oD' qA;have aJ:aA<(aC.length:Int):=oD' qA;obtain⟨aI,aZ,aT⟩:=Kd.at_string (Kd.R_reads' HO_4.out).2.2 aA aM aJ
           cases aZ
           replace aM:=eq_true aM;replace aJ:=eq_true aJ;have aN:0≤(aA:Int):=oD' qA;have aR:aA<(aC.length:Int):=oD' qA;obtain⟨aV,bC,aU⟩:=Kd.at_string (Kd.R_reads' HO_4.out).2.2 aA aN aR;obtain rfl:aI=aV:=(by injection bC)
           replace aN:=eq_true aN;replace aR:=eq_true aR;have bV:0≤(0:Int):=(by omega)
           have bL:0<(rdOf ByteArray.empty aC aA).size:=(by have:(0:Int)<((rdOf ByteArray.empty aC aA).size:Int):=oD' qA;omega)
           have bZ: ∀h:0<(rdOf ByteArray.empty aC aA).size,(((rdOf ByteArray.empty aC aA)[0]'h).toNat:Int)=bt (rdOf ByteArray.empty aC aA) 0:=bt_at (rdOf ByteArray.empty aC aA) 0;clear bV;have cA:(0<((rdOf ByteArray.empty aC aA).size:Int))=True:=eq_true (oD' qA);replace bL:=eq_true bL;have bI:0≤(aA:Int):=oD' qA;have bF:aA<(aC.length:Int):=oD' qA;obtain⟨bY,cO,bQ⟩:=Kd.at_string (Kd.R_reads' HO_4.out).2.2 aA bI bF;obtain rfl:aI=bY:=(by injection cO)
           replace bI:=eq_true bI;replace bF:=eq_true bF;have dD:0≤(1:Int):=(by omega)
           have cN:1<(rdOf ByteArray.empty aC aA).size:=(by have:(1:Int)<((rdOf ByteArray.empty aC aA).size:Int):=oD' qA;omega)
           have cY: ∀h:1<(rdOf ByteArray.empty aC aA).size,(((rdOf ByteArray.empty aC aA)[1]'h).toNat:Int)=bt (rdOf ByteArray.empty aC aA) 1:=bt_at (rdOf ByteArray.empty aC aA) 1;clear dD;have dG:(1<((rdOf ByteArray.empty aC aA).size:Int))=True:=eq_true (oD' qA);replace cN:=eq_true cN;go_wp2
           go_meet
           case rel=>exact⟨_,(true),qS,H',⟨by have:=cD.out;first|omega|exact Nat.le_refl _⟩,⟨qR HO_4.out⟩,⟨qR HO_5.out⟩,⟨qK0 HB.out⟩⟩
          ·rw[if_neg c16]at H;have c16b0:decide ((bt (rdOf ByteArray.empty aC aA) 1)<48)=false:=dF' c16;clear c16;have H':=A' H;clear H;have aM:0≤(aA:Int):=oD' qA;have aJ:aA<(aC.length:Int):=oD' qA;obtain⟨aI,aZ,aT⟩:=Kd.at_string (Kd.R_reads' HO_4.out).2.2 aA aM aJ
           cases aZ
           replace aM:=eq_true aM;replace aJ:=eq_true aJ;have aN:0≤(aA:Int):=oD' qA;have aR:aA<(aC.length:Int):=oD' qA;obtain⟨aV,bC,aU⟩:=Kd.at_string (Kd.R_reads' HO_4.out).2.2 aA aN aR;obtain rfl:aI=aV:=(by injection bC)
           replace aN:=eq_true aN;replace aR:=eq_true aR;have bV:0≤(0:Int):=(by omega)
           have bL:0<(rdOf ByteArray.empty aC aA).size:=(by have:(0:Int)<((rdOf ByteArray.empty aC aA).size:Int):=oD' qA;omega)
           have bZ: ∀h:0<(rdOf ByteArray.empty aC aA).size,(((rdOf ByteArray.empty aC aA)[0]'h).toNat:Int)=bt (rdOf ByteArray.empty aC aA) 0:=bt_at (rdOf ByteArray.empty aC aA) 0;clear bV;have cA:(0<((rdOf ByteArray.empty aC aA).size:Int))=True:=eq_true (oD' qA);replace bL:=eq_true bL;have bI:0≤(aA:Int):=oD' qA;have bF:aA<(aC.length:Int):=oD' qA;obtain⟨bY,cO,bQ⟩:=Kd.at_string (Kd.R_reads' HO_4.out).2.2 aA bI bF;obtain rfl:aI=bY:=(by injection cO)
           replace bI:=eq_true bI;replace bF:=eq_true bF;have dD:0≤(1:Int):=(by omega)
           have cN:1<(rdOf ByteArray.empty aC aA).size:=(by have:(1:Int)<((rdOf ByteArray.empty aC aA).size:Int):=oD' qA;omega)
           have cY: ∀h:1<(rdOf ByteArray.empty aC aA).size,(((rdOf ByteArray.empty aC aA)[1]'h).toNat:Int)=bt (rdOf ByteArray.empty aC aA) 1:=bt_at (rdOf ByteArray.empty aC aA) 1;clear dD;have dG:(1<((rdOf ByteArray.empty aC aA).size:Int))=True:=eq_true (oD' qA);replace cN:=eq_true cN;have cJ:0≤(aA:Int):=oD' qA;have cG:aA<(aC.length:Int):=oD' qA;obtain⟨cW,eU,cE⟩:=Kd.at_string (Kd.R_reads' HO_4.out).2.2 aA cJ cG;obtain rfl:aI=cW:=(by injection eU)
           replace cJ:=eq_true cJ;replace cG:=eq_true cG;have eG:0≤(1:Int):=(by omega)
           have eC:1<(rdOf ByteArray.empty aC aA).size:=(by have:(1:Int)<((rdOf ByteArray.empty aC aA).size:Int):=oD' qA;omega)
           have eN: ∀h:1<(rdOf ByteArray.empty aC aA).size,(((rdOf ByteArray.empty aC aA)[1]'h).toNat:Int)=bt (rdOf ByteArray.empty aC aA) 1:=bt_at (rdOf ByteArray.empty aC aA) 1;clear eG;have eH:(1<((rdOf ByteArray.empty aC aA).size:Int))=True:=eq_true (oD' qA);replace eC:=eq_true eC;go_wp2
           go_meet
           case rel=>exact⟨_,(decide ((bt (rdOf ByteArray.empty aC aA) 1)≥52)),qS,H',⟨by have:=cD.out;first|omega|exact Nat.le_refl _⟩,⟨qR HO_4.out⟩,⟨qR HO_5.out⟩,⟨qK0 HB.out⟩⟩
         ·rw[if_neg c14]at H;exact absurd H (by simp)
        ·rw[if_neg c13]at H;have c13b0:((bt (rdOf ByteArray.empty aC aA) 0) == 102)=false:=beq_eq_false_iff_ne.mpr c13;have c13b1:((bt (rdOf ByteArray.empty aC aA) 0) != 102)=true:=bne_iff_ne.mpr c13
         by_cases c19:(bt (rdOf ByteArray.empty aC aA) 0)=109
         ·rw[if_pos c19]at H;have c19b0:((bt (rdOf ByteArray.empty aC aA) 0) == 109)=true:=beq_iff_eq.mpr c19;have c19b1:((bt (rdOf ByteArray.empty aC aA) 0) != 109)=false:=bne_eq_false_iff_eq.mpr c19;clear c19
          by_cases c20:1<((rdOf ByteArray.empty aC aA).size:Int)
          ·rw[if_pos c20]at H;have c20b0:decide (1<((rdOf ByteArray.empty aC aA).size:Int))=true:=dT' c20;have c20b1:decide (1<(rdOf ByteArray.empty aC aA).size)=true:=dT' (by omega);clear c20
           by_cases c22:(bt (rdOf ByteArray.empty aC aA) 1)<48
           ·rw[if_pos c22]at H;have c22b0:decide ((bt (rdOf ByteArray.empty aC aA) 1)<48)=true:=dT' c22;clear c22;have H':=A' H;clear H;have aM:0≤(aA:Int):=oD' qA;have aJ:aA<(aC.length:Int):=oD' qA;obtain⟨aI,aZ,aT⟩:=Kd.at_string (Kd.R_reads' HO_4.out).2.2 aA aM aJ
            cases aZ
            replace aM:=eq_true aM;replace aJ:=eq_true aJ;have aN:0≤(aA:Int):=oD' qA;have aR:aA<(aC.length:Int):=oD' qA;obtain⟨aV,bC,aU⟩:=Kd.at_string (Kd.R_reads' HO_4.out).2.2 aA aN aR;obtain rfl:aI=aV:=(by injection bC)
            replace aN:=eq_true aN;replace aR:=eq_true aR;have bV:0≤(0:Int):=(by omega)
            have bL:0<(rdOf ByteArray.empty aC aA).size:=(by have:(0:Int)<((rdOf ByteArray.empty aC aA).size:Int):=oD' qA;omega)
            have bZ: ∀h:0<(rdOf ByteArray.empty aC aA).size,(((rdOf ByteArray.empty aC aA)[0]'h).toNat:Int)=bt (rdOf ByteArray.empty aC aA) 0:=bt_at (rdOf ByteArray.empty aC aA) 0;clear bV;have cA:(0<((rdOf ByteArray.empty aC aA).size:Int))=True:=eq_true (oD' qA);replace bL:=eq_true bL;have aW:0≤(aA:Int):=oD' qA;have aX:aA<(aC.length:Int):=oD' qA;obtain⟨bH,bX,bB⟩:=Kd.at_string (Kd.R_reads' HO_4.out).2.2 aA aW aX;obtain rfl:aI=bH:=(by injection bX)
            replace aW:=eq_true aW;replace aX:=eq_true aX;have p18:0≤(0:Int):=(by omega)
            have cC:0<(rdOf ByteArray.empty aC aA).size:=(by have:(0:Int)<((rdOf ByteArray.empty aC aA).size:Int):=oD' qA;omega)
            have cP: ∀h:0<(rdOf ByteArray.empty aC aA).size,(((rdOf ByteArray.empty aC aA)[0]'h).toNat:Int)=bt (rdOf ByteArray.empty aC aA) 0:=bt_at (rdOf ByteArray.empty aC aA) 0;clear p18;have cT:(0<((rdOf ByteArray.empty aC aA).size:Int))=True:=eq_true (oD' qA);replace cC:=eq_true cC;have bG:0≤(aA:Int):=oD' qA;have bK:aA<(aC.length:Int):=oD' qA;obtain⟨bU,cM,bS⟩:=Kd.at_string (Kd.R_reads' HO_4.out).2.2 aA bG bK;obtain rfl:aI=bU:=(by injection cM)
            replace bG:=eq_true bG;replace bK:=eq_true bK;have dN:0≤(1:Int):=(by omega)
            have cS:1<(rdOf ByteArray.empty aC aA).size:=(by have:(1:Int)<((rdOf ByteArray.empty aC aA).size:Int):=oD' qA;omega)
            have cZ: ∀h:1<(rdOf ByteArray.empty aC aA).size,(((rdOf ByteArray.empty aC aA)[1]'h).toNat:Int)=bt (rdOf ByteArray.empty aC aA) 1:=bt_at (rdOf ByteArray.empty aC aA) 1;clear dN;have dQ:(1<((rdOf ByteArray.empty aC aA).size:Int))=True:=eq_true (oD' qA);replace cS:=eq_true cS;go_wp2
            go_meet
            case rel=>exact⟨_,(true),qS,H',⟨by have:=cD.out;first|omega|exact Nat.le_refl _⟩,⟨qR HO_4.out⟩,⟨qR HO_5.out⟩,⟨qK0 HB.out⟩⟩
           ·rw[if_neg c22]at H;have c22b0:decide ((bt (rdOf ByteArray.empty aC aA) 1)<48)=false:=dF' c22;clear c22;have H':=A' H;clear H;have aM:0≤(aA:Int):=oD' qA;have aJ:aA<(aC.length:Int):=oD' qA;obtain⟨aI,aZ,aT⟩:=Kd.at_string (Kd.R_reads' HO_4.out).2.2 aA aM aJ
            cases aZ
            replace aM:=eq_true aM;replace aJ:=eq_true aJ;have aN:0≤(aA:Int):=oD' qA;have aR:aA<(aC.length:Int):=oD' qA;obtain⟨aV,bC,aU⟩:=Kd.at_string (Kd.R_reads' HO_4.out).2.2 aA aN aR;obtain rfl:aI=aV:=(by injection bC)
            replace aN:=eq_true aN;replace aR:=eq_true aR;have bV:0≤(0:Int):=(by omega)
            have bL:0<(rdOf ByteArray.empty aC aA).size:=(by have:(0:Int)<((rdOf ByteArray.empty aC aA).size:Int):=oD' qA;omega)
            have bZ: ∀h:0<(rdOf ByteArray.empty aC aA).size,(((rdOf ByteArray.empty aC aA)[0]'h).toNat:Int)=bt (rdOf ByteArray.empty aC aA) 0:=bt_at (rdOf ByteArray.empty aC aA) 0;clear bV;have cA:(0<((rdOf ByteArray.empty aC aA).size:Int))=True:=eq_true (oD' qA);replace bL:=eq_true bL;have aW:0≤(aA:Int):=oD' qA;have aX:aA<(aC.length:Int):=oD' qA;obtain⟨bH,bX,bB⟩:=Kd.at_string (Kd.R_reads' HO_4.out).2.2 aA aW aX;obtain rfl:aI=bH:=(by injection bX)
            replace aW:=eq_true aW;replace aX:=eq_true aX;have p18:0≤(0:Int):=(by omega)
            have cC:0<(rdOf ByteArray.empty aC aA).size:=(by have:(0:Int)<((rdOf ByteArray.empty aC aA).size:Int):=oD' qA;omega)
            have cP: ∀h:0<(rdOf ByteArray.empty aC aA).size,(((rdOf ByteArray.empty aC aA)[0]'h).toNat:Int)=bt (rdOf ByteArray.empty aC aA) 0:=bt_at (rdOf ByteArray.empty aC aA) 0;clear p18;have cT:(0<((rdOf ByteArray.empty aC aA).size:Int))=True:=eq_true (oD' qA);replace cC:=eq_true cC;have bG:0≤(aA:Int):=oD' qA;have bK:aA<(aC.length:Int):=oD' qA;obtain⟨bU,cM,bS⟩:=Kd.at_string (Kd.R_reads' HO_4.out).2.2 aA bG bK;obtain rfl:aI=bU:=(by injection cM)
            replace bG:=eq_true bG;replace bK:=eq_true bK;have dN:0≤(1:Int):=(by omega)
            have cS:1<(rdOf ByteArray.empty aC aA).size:=(by have:(1:Int)<((rdOf ByteArray.empty aC aA).size:Int):=oD' qA;omega)
            have cZ: ∀h:1<(rdOf ByteArray.empty aC aA).size,(((rdOf ByteArray.empty aC aA)[1]'h).toNat:Int)=bt (rdOf ByteArray.empty aC aA) 1:=bt_at (rdOf ByteArray.empty aC aA) 1;clear dN;have dQ:(1<((rdOf ByteArray.empty aC aA).size:Int))=True:=eq_true (oD' qA);replace cS:=eq_true cS;have cF:0≤(aA:Int):=oD' qA;have cH:aA<(aC.length:Int):=oD' qA;obtain⟨dA,eI,cK⟩:=Kd.at_string (Kd.R_reads' HO_4.out).2.2 aA cF cH;obtain rfl:aI=dA:=(by injection eI)
            replace cF:=eq_true cF;replace cH:=eq_true cH;have eL:0≤(1:Int):=(by omega)
            have dV:1<(rdOf ByteArray.empty aC aA).size:=(by have:(1:Int)<((rdOf ByteArray.empty aC aA).size:Int):=oD' qA;omega)
            have eM: ∀h:1<(rdOf ByteArray.empty aC aA).size,(((rdOf ByteArray.empty aC aA)[1]'h).toNat:Int)=bt (rdOf ByteArray.empty aC aA) 1:=bt_at (rdOf ByteArray.empty aC aA) 1;clear eL;have eT:(1<((rdOf ByteArray.empty aC aA).size:Int))=True:=eq_true (oD' qA);replace dV:=eq_true dV;go_wp2
            go_meet
            case rel=>exact⟨_,(decide ((bt (rdOf ByteArray.empty aC aA) 1)≥52)),qS,H',⟨by have:=cD.out;first|omega|exact Nat.le_refl _⟩,⟨qR HO_4.out⟩,⟨qR HO_5.out⟩,⟨qK0 HB.out⟩⟩
          ·rw[if_neg c20]at H;exact absurd H (by simp)
         ·rw[if_neg c19]at H;have c19b0:((bt (rdOf ByteArray.empty aC aA) 0) == 109)=false:=beq_eq_false_iff_ne.mpr c19;have c19b1:((bt (rdOf ByteArray.empty aC aA) 0) != 109)=true:=bne_iff_ne.mpr c19;have H':=A' H;clear H;have aM:0≤(aA:Int):=oD' qA;have aJ:aA<(aC.length:Int):=oD' qA;obtain⟨aI,aZ,aT⟩:=Kd.at_string (Kd.R_reads' HO_4.out).2.2 aA aM aJ
          cases aZ
          replace aM:=eq_true aM;replace aJ:=eq_true aJ;have aN:0≤(aA:Int):=oD' qA;have aR:aA<(aC.length:Int):=oD' qA;obtain⟨aV,bC,aU⟩:=Kd.at_string (Kd.R_reads' HO_4.out).2.2 aA aN aR;obtain rfl:aI=aV:=(by injection bC)
          replace aN:=eq_true aN;replace aR:=eq_true aR;have bV:0≤(0:Int):=(by omega)
          have bL:0<(rdOf ByteArray.empty aC aA).size:=(by have:(0:Int)<((rdOf ByteArray.empty aC aA).size:Int):=oD' qA;omega)
          have bZ: ∀h:0<(rdOf ByteArray.empty aC aA).size,(((rdOf ByteArray.empty aC aA)[0]'h).toNat:Int)=bt (rdOf ByteArray.empty aC aA) 0:=bt_at (rdOf ByteArray.empty aC aA) 0;clear bV;have cA:(0<((rdOf ByteArray.empty aC aA).size:Int))=True:=eq_true (oD' qA);replace bL:=eq_true bL;have aW:0≤(aA:Int):=oD' qA;have aX:aA<(aC.length:Int):=oD' qA;obtain⟨bH,bX,bB⟩:=Kd.at_string (Kd.R_reads' HO_4.out).2.2 aA aW aX;obtain rfl:aI=bH:=(by injection bX)
          replace aW:=eq_true aW;replace aX:=eq_true aX;have p18:0≤(0:Int):=(by omega)
          have cC:0<(rdOf ByteArray.empty aC aA).size:=(by have:(0:Int)<((rdOf ByteArray.empty aC aA).size:Int):=oD' qA;omega)
          have cP: ∀h:0<(rdOf ByteArray.empty aC aA).size,(((rdOf ByteArray.empty aC aA)[0]'h).toNat:Int)=bt (rdOf ByteArray.empty aC aA) 0:=bt_at (rdOf ByteArray.empty aC aA) 0;clear p18;have cT:(0<((rdOf ByteArray.empty aC aA).size:Int))=True:=eq_true (oD' qA);replace cC:=eq_true cC;go_wp2
          go_meet
          case rel=>exact⟨_,(true),qS,H',⟨by have:=cD.out;first|omega|exact Nat.le_refl _⟩,⟨qR HO_4.out⟩,⟨qR HO_5.out⟩,⟨qK0 HB.out⟩⟩
       ·rw[if_neg c11]at H;exact absurd H (by simp)
      ·rw[if_neg c10]at H;have c10b0:(((rdOf ByteArray.empty aC aA).size:Int) == 2)=false:=beq_eq_false_iff_ne.mpr c10;have c10b1:(((rdOf ByteArray.empty aC aA).size:Int) != 2)=true:=bne_iff_ne.mpr c10;have H':=A' H;clear H;have aM:0≤(aA:Int):=oD' qA;have aJ:aA<(aC.length:Int):=oD' qA;obtain⟨aI,aZ,aT⟩:=Kd.at_string (Kd.R_reads' HO_4.out).2.2 aA aM aJ
       cases aZ
       replace aM:=eq_true aM;replace aJ:=eq_true aJ;go_wp2
       go_meet
       case rel=>exact⟨_,(true),qS,H',⟨by have:=cD.out;first|omega|exact Nat.le_refl _⟩,⟨qR HO_4.out⟩,⟨qR HO_5.out⟩,⟨qK0 HB.out⟩⟩
     ·rw[if_neg c9]at H;exact absurd H (by simp)
    case rest=>
     clear eF;try clear c1
     try clear p1
     try clear q1
     try clear hx1
     try clear qi1
     try clear c2
     try clear p2
     try clear q2
     try clear hx2
     try clear qi2
     try clear c5
     try clear p5
     try clear q5
     try clear hx5
     try clear c6
     try clear c6b0
     try clear c9
     try clear c9b0
     try clear c10
     try clear c10b0
     try clear c10b1
     try clear c11
     try clear c11b0
     try clear c11b1
     try clear bV
     try clear bL
     try clear bZ
     try clear cA
     try clear c13
     try clear c13b0
     try clear c13b1
     try clear c14
     try clear c14b0
     try clear c14b1
     try clear dD
     try clear cN
     try clear cY
     try clear dG
     try clear c16
     try clear c16b0
     try clear eG
     try clear eC
     try clear eN
     try clear eH
     try clear p18
     try clear cC
     try clear cP
     try clear cT
     try clear c19
     try clear c19b0
     try clear c19b1
     try clear c20
     try clear c20b0
     try clear c20b1
     try clear dN
     try clear cS
     try clear cZ
     try clear dQ
     try clear c22
     try clear c22b0
     try clear eL
     try clear dV
     try clear eM
     try clear eT
     try clear aT
     try clear aU
     try clear bQ
     try clear cE
     try clear bB
     try clear bS
     try clear cK
     try clear bV
     try clear dD
     try clear eG
     try clear p18
     try clear p2
     try clear dN
     try clear eL
     try clear aM
     try clear aN
     try clear bI
     try clear cJ
     try clear aW
     try clear bG
     try clear cF
     try clear bL
     try clear cN
     try clear eC
     try clear cC
     try clear cS
     try clear dV
     try clear aJ
     try clear aR
     try clear bF
     try clear cG
     try clear aX
     try clear bK
     try clear cH
     obtain⟨kq,bT,rfl,HA,eB,HO_4,HO_5,HB⟩:=hcut
     cases kq with
     |zero=>exact absurd HA.out (by simp[spec_ReadWay.j1])
     |succ cU=>
      have H:=HA.out;clear HA;simp only[spec_ReadWay.j1]at H
      by_cases dY:bT=true
      ·subst dY;have H1:(some (([]:List (S51)),false))=some (r1,r2):=by rw[if_pos rfl]at H;exact H
       clear H;have H:=H1;clear H1;simp only[Option.some.injEq,Prod.mk.injEq]at H;obtain⟨rfl,rfl⟩:=H;go_wp2;go_ret2;exact⟨_,qE,by first|exact Kd.R_nil _ _ _ _ _|exact Kd.N_nil _ _ _ _ _|exact Kd.V_nil _ _ _ _ _|exact Kd.Q_nil _ _ _ _ _|exact Kd.S_nil _ _ _ _ _,qK0 HB.out⟩
      ·replace dY:=Bool.eq_false_iff.mpr dY;subst dY;have H1:(if 0≤aA then(if aA<(aC.length:Int)then(if 1<((rdOf ByteArray.empty aC aA).size:Int)then(if 0<((rdOf ByteArray.empty aC aA).size:Int)then(if(bt (rdOf ByteArray.empty aC aA) 0)=109 then(if aQ.length<8796093022208 then(spec_ReadWay.l0 cU aC (aQ ++ [(⟨1,((bt (rdOf ByteArray.empty aC aA) 1) - 48) % 256⟩:S51)]) (wrap64 (aA+1)))else(none))else(if aQ.length<8796093022208 then(spec_ReadWay.l0 cU aC (aQ ++ [(⟨0,((bt (rdOf ByteArray.empty aC aA) 1) - 48) % 256⟩:S51)]) (wrap64 (aA+1)))else(none)))else(none))else(none))else(none))else(none))=some (r1,r2):=by rw[if_neg (show¬(false=true) by decide)]at H;exact H
       clear H;have H:=H1;clear H1
       by_cases c25:0≤aA
       ·rw[if_pos c25]at H;have c25b0:decide (0≤aA)=true:=dT' c25;clear c25
        by_cases c26:aA<(aC.length:Int)
        ·rw[if_pos c26]at H;have c26b0:decide (aA<(aC.length:Int))=true:=dT' c26;clear c26
         by_cases c27:1<((rdOf ByteArray.empty aC aA).size:Int)
         ·rw[if_pos c27]at H;have c27b0:decide (1<((rdOf ByteArray.empty aC aA).size:Int))=true:=dT' c27;have c27b1:decide (1<(rdOf ByteArray.empty aC aA).size)=true:=dT' (by omega);clear c27
          by_cases c29:0<((rdOf ByteArray.empty aC aA).size:Int)
          ·rw[if_pos c29]at H;have c29b0:decide (0<((rdOf ByteArray.empty aC aA).size:Int))=true:=dT' c29;have c29b1:decide (0<(rdOf ByteArray.empty aC aA).size)=true:=dT' (by omega);clear c29
           by_cases c31:(bt (rdOf ByteArray.empty aC aA) 0)=109
           ·rw[if_pos c31]at H;have c31b0:((bt (rdOf ByteArray.empty aC aA) 0) == 109)=true:=beq_iff_eq.mpr c31;have c31b1:((bt (rdOf ByteArray.empty aC aA) 0) != 109)=false:=bne_eq_false_iff_eq.mpr c31;clear c31
            by_cases c32:aQ.length<8796093022208
            ·rw[if_pos c32]at H;have dI:=A' c32;clear c32;obtain⟨cX,bD⟩: ∃y_:List (S51),y_=(aQ ++ [(⟨1,((bt (rdOf ByteArray.empty aC aA) 1) - 48) % 256⟩:S51)]):=⟨_,rfl⟩
             replace H:(spec_ReadWay.l0 cU aC cX (wrap64 (aA+1)))=some (r1,r2):=by first|(rw[bD];with_reducible exact H)|(have H2_:=(Option.bind_some _ _).symm.trans H;rw[bD];with_reducible exact H2_)|(have H2_:=(Option.bind_some _ _).symm.trans H;with_reducible exact H2_)|with_reducible exact H|(rw[bD];exact H)|exact H
             have dH:=A' bD;clear bD;have H':=A' H;clear H;have bO:0≤(aA:Int):=oD' qA;have bN:aA<(aC.length:Int):=oD' qA;obtain⟨aY,cQ,cI⟩:=Kd.at_string (Kd.R_reads' HO_4.out).2.2 aA bO bN
             cases cQ
             replace bO:=eq_true bO;replace bN:=eq_true bN;have eP:0≤(1:Int):=(by omega)
             have dC:1<(rdOf ByteArray.empty aC aA).size:=(by have:(1:Int)<((rdOf ByteArray.empty aC aA).size:Int):=oD' qA;omega)
             have eK: ∀h:1<(rdOf ByteArray.empty aC aA).size,(((rdOf ByteArray.empty aC aA)[1]'h).toNat:Int)=bt (rdOf ByteArray.empty aC aA) 1:=bt_at (rdOf ByteArray.empty aC aA) 1;clear eP;have eS:(1<((rdOf ByteArray.empty aC aA).size:Int))=True:=eq_true (oD' qA);replace dC:=eq_true dC;go_wp2_with (first|((with_reducible refine gate_dst (N:=7) rfl ?_);refine box_event ?hg (N:=7) ?hd (cs:=#[.int .i64 0,.int .i64 0]) (t:=51) ?hr ?_;(case hd=>rfl);(case hg=>rfl);(case hr=>first|(go_simp;done)|(go_simp;rfl));intro aD hg fA hbox hb;have n0_:=A' (L' (qR HO_4.out) hb);have n1_:=A' (L' (Kd.R_elderB (qR HO_5.out) aD (Nat.le_of_eq hg.symm)) hb);have n2_:=A' (W' (qK0 HB.out) hb);have n3_:=A' (hbox);have n4_:=A' ((by rw[hg];exact(V' (qK0 HB.out)):w.heap.size≤aD));have n5_:=A' ((by rw[hg];exact(V' (qK0 HB.out)):w.heap.size≤aD));clear HO_4;clear HO_5;clear HB;have HO_4:=n0_;have HO_5:=n1_;have HB:=n2_;have aE:=n3_;have dJ:=n4_;have bA:=n5_;clear n0_ n1_ n2_ n3_ n4_ n5_;clear hb hbox hg;have dT:fA.cell? ⟨aD,0,none⟩=some (.int .i64 0):=(N' aE.out 0).trans rfl;have dX:fA.cell? ⟨aD,1,none⟩=some (.int .i64 0):=(N' aE.out 1).trans rfl;have dS:=Y' aE.out 0;have dU:=Y' aE.out 1;have bP:0≤(aA:Int):=oD' qA;have bM:aA<(aC.length:Int):=oD' qA;obtain⟨bW,cR,aK⟩:=Kd.at_string (Kd.R_reads' HO_4.out).2.2 aA bP bM;obtain rfl:aY=bW:=(by injection cR);have aH:aY.block≠aD:=Kd.own_blk (Kd.R_ne HO_4.out aE.out (by decide));have aG:aY.block≠aD:=Kd.own_blk (Kd.R_ne HO_4.out aE.out (by decide));replace aK:=(Z' (p:=⟨aD,0,none⟩) (by first|(rw[add_block];exact aH)|(show(Addr.add _ _).block≠_;rw[add_block];exact aH)|exact aH|(dsimp only;exact aH)) (.int .i64 0)).trans aK;replace aK:=(Z' (p:=⟨aD,1,none⟩) (by first|(rw[add_block];exact aG)|(show(Addr.add _ _).block≠_;rw[add_block];exact aG)|exact aG|(dsimp only;exact aG)) (.int .i64 (((bt (rdOf ByteArray.empty aC aA) 1) - 48) % 256))).trans aK;clear aH;clear aG;replace bP:=eq_true bP;replace bM:=eq_true bM;have eE:0≤(0:Int):=(by omega);have dK:0<(rdOf ByteArray.empty aC aA).size:=(by have:(0:Int)<((rdOf ByteArray.empty aC aA).size:Int):=oD' qA;omega);have eR: ∀h:0<(rdOf ByteArray.empty aC aA).size,(((rdOf ByteArray.empty aC aA)[0]'h).toNat:Int)=bt (rdOf ByteArray.empty aC aA) 0:=bt_at (rdOf ByteArray.empty aC aA) 0;clear eE;have eO:(0<((rdOf ByteArray.empty aC aA).size:Int))=True:=eq_true (oD' qA);replace dK:=eq_true dK)|((with_reducible refine gate_builtin (b:=.append) (xs:=#[.tmp 70,.tmp 72]) rfl ?_);at_builtin;refine Kd.R_append k51 (w0:=w) w.heap.size rfl (.tmp 70) (.tmp 72) 26 51 (.agg #[(.int .i64 0),(.int .i64 0)]) 16 rfl Tryz.underlying26 info51 rfl (by decide) (by omega) u5 aQ (⟨1,((bt (rdOf ByteArray.empty aC aA) 1) - 48) % 256⟩:S51) [.int .i64 1,.int .i64 (((bt (rdOf ByteArray.empty aC aA) 1) - 48) % 256)] (fun k_=>k_≠aD) (fun _=>False) rfl (by first|(go_simp;done)|(go_simp;rfl)) ?aP (fun _ hk=>hk.elim) ?aF ?aO ?aB ?aS ?aL ?_;(case aP=>exact k51_mkM _ _ _ (⟨1,((bt (rdOf ByteArray.empty aC aA) 1) - 48) % 256⟩:S51));(case aB=>exact(qK1 HB.out bA.out));(case aF=>exact(fun k_ hk=>Kd.freshB (g:=aD) (o:=.cells #[.int .i64 1,.int .i64 (((bt (rdOf ByteArray.empty aC aA) 1) - 48) % 256)] 51 (0,0)) (by(with_reducible repeat(first|refine G' ?_ _|refine I' ?_|refine hA' ?_ _));refine blk_put (cs:=#[.int .i64 0,.int .i64 (((bt (rdOf ByteArray.empty aC aA) 1) - 48) % 256)]) ?_ 0 _ rfl;(with_reducible repeat(first|refine G' ?_ _|refine I' ?_|refine hA' ?_ _));refine blk_put (cs:=#[.int .i64 0,.int .i64 0]) ?_ 1 _ rfl;(with_reducible repeat(first|refine G' ?_ _|refine I' ?_|refine hA' ?_ _));refine blk_put (cs:=#[.int .i64 0,.int .i64 0]) ?_ 0 _ rfl;(with_reducible repeat(first|refine G' ?_ _|refine I' ?_|refine hA' ?_ _));exact aE.out) k_ hk));(case aO=>exact(by(with_reducible repeat(first|apply B'|apply C'|apply D'));exact Q' (M' (p:=⟨aD,0,none⟩) (M' (p:=⟨aD,1,none⟩) (M' (p:=⟨aD,0,none⟩) (Q' HO_5.out (fun k_ hk=>(⟨hk,hk.2⟩:_∧k_≠aD))) (fun _ hk=>hk.2) (.int .i64 0)) (fun _ hk=>hk.2) (.int .i64 (((bt (rdOf ByteArray.empty aC aA) 1) - 48) % 256))) (fun _ hk=>hk.2) (.int .i64 1)) (fun _ hk=>hk.1.2)));(case aS=>exact(V' (qK1 HB.out bA.out)));(case aL=>have:=dI.out;omega);intro fO fR ho hb hg hat;rw[← dH.out]at ho;have n0_:=A' (Kd.R_over' (by(with_reducible repeat(first|apply B'|apply C'|apply D'));exact(Q' (M' (p:=⟨aD,0,none⟩) (M' (p:=⟨aD,1,none⟩) (M' (p:=⟨aD,0,none⟩) (P' HO_4.out aE.out (by decide)) (fun _ hk=>hk.2) (.int .i64 0)) (fun _ hk=>hk.2) (.int .i64 (((bt (rdOf ByteArray.empty aC aA) 1) - 48) % 256))) (fun _ hk=>hk.2) (.int .i64 1)) (fun _ h_=>h_.1))) (Kd.R_typed (by(with_reducible repeat(first|apply B'|apply C'|apply D'));exact(Q' (M' (p:=⟨aD,0,none⟩) (M' (p:=⟨aD,1,none⟩) (M' (p:=⟨aD,0,none⟩) (Q' HO_5.out (fun k_ hk=>(⟨hk,hk.2⟩:_∧k_≠aD))) (fun _ hk=>hk.2) (.int .i64 0)) (fun _ hk=>hk.2) (.int .i64 (((bt (rdOf ByteArray.empty aC aA) 1) - 48) % 256))) (fun _ hk=>hk.2) (.int .i64 1)) (fun _ h_=>h_.1)))) (by decide) hg);have n1_:=A' (blk_grown (g:=aD) (o:=.cells #[.int .i64 1,.int .i64 (((bt (rdOf ByteArray.empty aC aA) 1) - 48) % 256)] 51 (0,0)) (by(with_reducible repeat(first|refine G' ?_ _|refine I' ?_|refine hA' ?_ _));refine blk_put (cs:=#[.int .i64 0,.int .i64 (((bt (rdOf ByteArray.empty aC aA) 1) - 48) % 256)]) ?_ 0 _ rfl;(with_reducible repeat(first|refine G' ?_ _|refine I' ?_|refine hA' ?_ _));refine blk_put (cs:=#[.int .i64 0,.int .i64 0]) ?_ 1 _ rfl;(with_reducible repeat(first|refine G' ?_ _|refine I' ?_|refine hA' ?_ _));refine blk_put (cs:=#[.int .i64 0,.int .i64 0]) ?_ 0 _ rfl;(with_reducible repeat(first|refine G' ?_ _|refine I' ?_|refine hA' ?_ _));exact aE.out) hg (Kd.R_away HO_5.out (fun _ hk=>hk.2)));have n2_:=A' (hb);have n3_:=A' (ho);clear HO_4;clear aE;clear HB;clear HO_5;have HO_4:=n0_;have aE:=n1_;have HB:=n2_;have cV:=n3_;clear n0_ n1_ n2_ n3_;clear ho hb hg hat))
             go_roundg cU
             case measure=>have:=cD.out;have:=eB.out;omega
             case rel=>exact⟨(cX),(wrap64 (aA+1)),qS,H',⟨by have:=cD.out;have:=eB.out;omega⟩,⟨qR HO_4.out⟩,⟨by(with_reducible repeat(first|apply B'|apply C'|apply D'));exact Q' cV.out (fun _ hk=>trivial)⟩,⟨qK1 HB.out bA.out⟩⟩
            ·rw[if_neg c32]at H;exact absurd H (by simp)
           ·rw[if_neg c31]at H;have c31b0:((bt (rdOf ByteArray.empty aC aA) 0) == 109)=false:=beq_eq_false_iff_ne.mpr c31;have c31b1:((bt (rdOf ByteArray.empty aC aA) 0) != 109)=true:=bne_iff_ne.mpr c31
            by_cases c36:aQ.length<8796093022208
            ·rw[if_pos c36]at H;have dP:=A' c36;clear c36;obtain⟨dE,bJ⟩: ∃y_:List (S51),y_=(aQ ++ [(⟨0,((bt (rdOf ByteArray.empty aC aA) 1) - 48) % 256⟩:S51)]):=⟨_,rfl⟩
             replace H:(spec_ReadWay.l0 cU aC dE (wrap64 (aA+1)))=some (r1,r2):=by first|(rw[bJ];with_reducible exact H)|(have H2_:=(Option.bind_some _ _).symm.trans H;rw[bJ];with_reducible exact H2_)|(have H2_:=(Option.bind_some _ _).symm.trans H;with_reducible exact H2_)|with_reducible exact H|(rw[bJ];exact H)|exact H
             have dB:=A' bJ;clear bJ;have H':=A' H;clear H;have bO:0≤(aA:Int):=oD' qA;have bN:aA<(aC.length:Int):=oD' qA;obtain⟨aY,cQ,cI⟩:=Kd.at_string (Kd.R_reads' HO_4.out).2.2 aA bO bN
             cases cQ
             replace bO:=eq_true bO;replace bN:=eq_true bN;have eP:0≤(1:Int):=(by omega)
             have dC:1<(rdOf ByteArray.empty aC aA).size:=(by have:(1:Int)<((rdOf ByteArray.empty aC aA).size:Int):=oD' qA;omega)
             have eK: ∀h:1<(rdOf ByteArray.empty aC aA).size,(((rdOf ByteArray.empty aC aA)[1]'h).toNat:Int)=bt (rdOf ByteArray.empty aC aA) 1:=bt_at (rdOf ByteArray.empty aC aA) 1;clear eP;have eS:(1<((rdOf ByteArray.empty aC aA).size:Int))=True:=eq_true (oD' qA);replace dC:=eq_true dC;go_wp2_with (first|((with_reducible refine gate_dst (N:=7) rfl ?_);refine box_event ?hg (N:=7) ?hd (cs:=#[.int .i64 0,.int .i64 0]) (t:=51) ?hr ?_;(case hd=>rfl);(case hg=>rfl);(case hr=>first|(go_simp;done)|(go_simp;rfl));intro aD hg eX hbox hb;have n0_:=A' (L' (qR HO_4.out) hb);have n1_:=A' (L' (Kd.R_elderB (qR HO_5.out) aD (Nat.le_of_eq hg.symm)) hb);have n2_:=A' (W' (qK0 HB.out) hb);have n3_:=A' (hbox);have n4_:=A' ((by rw[hg];exact(V' (qK0 HB.out)):w.heap.size≤aD));have n5_:=A' ((by rw[hg];exact(V' (qK0 HB.out)):w.heap.size≤aD));clear HO_4;clear HO_5;clear HB;have HO_4:=n0_;have HO_5:=n1_;have HB:=n2_;have aE:=n3_;have dJ:=n4_;have bA:=n5_;clear n0_ n1_ n2_ n3_ n4_ n5_;clear hb hbox hg;have dW:eX.cell? ⟨aD,0,none⟩=some (.int .i64 0):=(N' aE.out 0).trans rfl;have eA:eX.cell? ⟨aD,1,none⟩=some (.int .i64 0):=(N' aE.out 1).trans rfl;have dZ:=Y' aE.out 0;have dR:=Y' aE.out 1;have bP:0≤(aA:Int):=oD' qA;have bM:aA<(aC.length:Int):=oD' qA;obtain⟨bW,cR,aK⟩:=Kd.at_string (Kd.R_reads' HO_4.out).2.2 aA bP bM;obtain rfl:aY=bW:=(by injection cR);have aH:aY.block≠aD:=Kd.own_blk (Kd.R_ne HO_4.out aE.out (by decide));have aG:aY.block≠aD:=Kd.own_blk (Kd.R_ne HO_4.out aE.out (by decide));replace aK:=(Z' (p:=⟨aD,0,none⟩) (by first|(rw[add_block];exact aH)|(show(Addr.add _ _).block≠_;rw[add_block];exact aH)|exact aH|(dsimp only;exact aH)) (.int .i64 0)).trans aK;replace aK:=(Z' (p:=⟨aD,1,none⟩) (by first|(rw[add_block];exact aG)|(show(Addr.add _ _).block≠_;rw[add_block];exact aG)|exact aG|(dsimp only;exact aG)) (.int .i64 (((bt (rdOf ByteArray.empty aC aA) 1) - 48) % 256))).trans aK;clear aH;clear aG;replace bP:=eq_true bP;replace bM:=eq_true bM;have eE:0≤(0:Int):=(by omega);have dK:0<(rdOf ByteArray.empty aC aA).size:=(by have:(0:Int)<((rdOf ByteArray.empty aC aA).size:Int):=oD' qA;omega);have eR: ∀h:0<(rdOf ByteArray.empty aC aA).size,(((rdOf ByteArray.empty aC aA)[0]'h).toNat:Int)=bt (rdOf ByteArray.empty aC aA) 0:=bt_at (rdOf ByteArray.empty aC aA) 0;clear eE;have eO:(0<((rdOf ByteArray.empty aC aA).size:Int))=True:=eq_true (oD' qA);replace dK:=eq_true dK)|((with_reducible refine gate_builtin (b:=.append) (xs:=#[.tmp 70,.tmp 72]) rfl ?_);at_builtin;refine Kd.R_append k51 (w0:=w) w.heap.size rfl (.tmp 70) (.tmp 72) 26 51 (.agg #[(.int .i64 0),(.int .i64 0)]) 16 rfl Tryz.underlying26 info51 rfl (by decide) (by omega) u5 aQ (⟨0,((bt (rdOf ByteArray.empty aC aA) 1) - 48) % 256⟩:S51) [.int .i64 0,.int .i64 (((bt (rdOf ByteArray.empty aC aA) 1) - 48) % 256)] (fun k_=>k_≠aD) (fun _=>False) rfl (by first|(go_simp;done)|(go_simp;rfl)) ?aP (fun _ hk=>hk.elim) ?aF ?aO ?aB ?aS ?aL ?_;(case aP=>exact k51_mkM _ _ _ (⟨0,((bt (rdOf ByteArray.empty aC aA) 1) - 48) % 256⟩:S51));(case aB=>exact(qK1 HB.out bA.out));(case aF=>exact(fun k_ hk=>Kd.freshB (g:=aD) (o:=.cells #[.int .i64 0,.int .i64 (((bt (rdOf ByteArray.empty aC aA) 1) - 48) % 256)] 51 (0,0)) (by(with_reducible repeat(first|refine G' ?_ _|refine I' ?_|refine hA' ?_ _));refine blk_put (cs:=#[.int .i64 0,.int .i64 0]) ?_ 1 _ rfl;(with_reducible repeat(first|refine G' ?_ _|refine I' ?_|refine hA' ?_ _));refine blk_put (cs:=#[.int .i64 0,.int .i64 0]) ?_ 0 _ rfl;(with_reducible repeat(first|refine G' ?_ _|refine I' ?_|refine hA' ?_ _));exact aE.out) k_ hk));(case aO=>exact(by(with_reducible repeat(first|apply B'|apply C'|apply D'));exact Q' (M' (p:=⟨aD,1,none⟩) (M' (p:=⟨aD,0,none⟩) (Q' HO_5.out (fun k_ hk=>(⟨hk,hk.2⟩:_∧k_≠aD))) (fun _ hk=>hk.2) (.int .i64 0)) (fun _ hk=>hk.2) (.int .i64 (((bt (rdOf ByteArray.empty aC aA) 1) - 48) % 256))) (fun _ hk=>hk.1.2)));(case aS=>exact(V' (qK1 HB.out bA.out)));(case aL=>have:=dP.out;omega);intro fG fS ho hb hg hat;rw[← dB.out]at ho;have n0_:=A' (Kd.R_over' (by(with_reducible repeat(first|apply B'|apply C'|apply D'));exact(Q' (M' (p:=⟨aD,1,none⟩) (M' (p:=⟨aD,0,none⟩) (P' HO_4.out aE.out (by decide)) (fun _ hk=>hk.2) (.int .i64 0)) (fun _ hk=>hk.2) (.int .i64 (((bt (rdOf ByteArray.empty aC aA) 1) - 48) % 256))) (fun _ h_=>h_.1))) (Kd.R_typed (by(with_reducible repeat(first|apply B'|apply C'|apply D'));exact(Q' (M' (p:=⟨aD,1,none⟩) (M' (p:=⟨aD,0,none⟩) (Q' HO_5.out (fun k_ hk=>(⟨hk,hk.2⟩:_∧k_≠aD))) (fun _ hk=>hk.2) (.int .i64 0)) (fun _ hk=>hk.2) (.int .i64 (((bt (rdOf ByteArray.empty aC aA) 1) - 48) % 256))) (fun _ h_=>h_.1)))) (by decide) hg);have n1_:=A' (blk_grown (g:=aD) (o:=.cells #[.int .i64 0,.int .i64 (((bt (rdOf ByteArray.empty aC aA) 1) - 48) % 256)] 51 (0,0)) (by(with_reducible repeat(first|refine G' ?_ _|refine I' ?_|refine hA' ?_ _));refine blk_put (cs:=#[.int .i64 0,.int .i64 0]) ?_ 1 _ rfl;(with_reducible repeat(first|refine G' ?_ _|refine I' ?_|refine hA' ?_ _));refine blk_put (cs:=#[.int .i64 0,.int .i64 0]) ?_ 0 _ rfl;(with_reducible repeat(first|refine G' ?_ _|refine I' ?_|refine hA' ?_ _));exact aE.out) hg (Kd.R_away HO_5.out (fun _ hk=>hk.2)));have n2_:=A' (hb);have n3_:=A' (ho);clear HO_4;clear aE;clear HB;clear HO_5;have HO_4:=n0_;have aE:=n1_;have HB:=n2_;have dL:=n3_;clear n0_ n1_ n2_ n3_;clear ho hb hg hat))
             go_roundg cU
             case measure=>have:=cD.out;have:=eB.out;omega
             case rel=>exact⟨(dE),(wrap64 (aA+1)),qS,H',⟨by have:=cD.out;have:=eB.out;omega⟩,⟨qR HO_4.out⟩,⟨by(with_reducible repeat(first|apply B'|apply C'|apply D'));exact Q' dL.out (fun _ hk=>trivial)⟩,⟨qK1 HB.out bA.out⟩⟩
            ·rw[if_neg c36]at H;exact absurd H (by simp)
          ·rw[if_neg c29]at H;exact absurd H (by simp)
         ·rw[if_neg c27]at H;exact absurd H (by simp)
        ·rw[if_neg c26]at H;exact absurd H (by simp)
       ·rw[if_neg c25]at H;exact absurd H (by simp)
   ·rw[if_neg c6]at H;have c6b0:decide (aA<(aC.length:Int))=false:=dF' c6;clear c6
    by_cases c40:(aQ.length:Int) > 8
    ·rw[if_pos c40]at H;have c40b0:decide (8<(aQ.length:Int))=true:=dT' c40;have c40b1:decide (8<aQ.length)=true:=dT' (by omega);clear c40;simp only[Option.some.injEq,Prod.mk.injEq]at H;obtain⟨rfl,rfl⟩:=H;obtain⟨fL,fD,eJ⟩:=Kd.R_slice HO_4.out;subst eJ;obtain⟨fF,fC,eQ⟩:=Kd.R_slice HO_5.out;subst eQ;go_wp2;go_ret2;exact⟨_,qE,by first|exact Kd.R_nil _ _ _ _ _|exact Kd.N_nil _ _ _ _ _|exact Kd.V_nil _ _ _ _ _|exact Kd.Q_nil _ _ _ _ _|exact Kd.S_nil _ _ _ _ _,qK0 HB.out⟩
    ·rw[if_neg c40]at H;have c40b0:decide (8<(aQ.length:Int))=false:=dF' c40;have c40b1:decide (8<aQ.length)=false:=dF' (by omega);clear c40;simp only[Option.some.injEq,Prod.mk.injEq]at H;obtain⟨rfl,rfl⟩:=H;obtain⟨fK,fN,eV⟩:=Kd.R_slice HO_4.out;subst eV;obtain⟨fJ,fE,eW⟩:=Kd.R_slice HO_5.out;subst eW;go_wp2;go_ret2;exact⟨_,qE,qR HO_5.out,qK0 HB.out⟩
/-! ### spec_DrawSameWay: function 20 -/
def spec_DrawSameWay.j0:Nat→List (S51)→List (S51)→Bool→List Int→Int→Int→Option ((List (S51))×(List (S51)))
 |0,_,_,_,_,_,_=>none
 |k+1,x5,x7,aH,aA,aC,aB=>if aH=true then(if 0<(x7.length:Int)then((spec_l00Src_pick.f aA aC aB 2).bind fun aD=>((some (x7.set (0:Int).toNat (⟨(rd_T51 x7 0).f0,wrap64 (((rd_T51 x7 0).f1)+aD.1)⟩:S51):List (S51))).bind fun aE=>((spec_l00Src_one.f aA aD.2.1 aD.2.2 5).bind fun aF=>(if aF.1=true then(if aE.length<8796093022208 then(some (x5,(aE ++ [(⟨0,0⟩:S51)])))else(none))else(some (x5,aE))))))else(none))else((spec_l00Src_one.f aA aC aB 5).bind fun aG=>(if aG.1=true then(if x7.length<8796093022208 then(some (x5,(x7 ++ [(⟨0,0⟩:S51)])))else(none))else(some (x5,x7))))
def spec_DrawSameWay.f (k:Nat) (l0:List Int):Option ((List (S51))×(List (S51))):=(spec_l07All.f k l0).bind fun aB=>((spec_l00From.f l0).bind fun aA=>((some (([]:List (S51)):List (S51))).bind fun aE=>(if aE.length+aB.2.2.2.length<8796093022208 then((some (aE ++ aB.2.2.2:List (S51))).bind fun aD=>(if(aD.length:Int) > 0 then((spec_l00Src_one.f aA.1 aA.2.1 aA.2.2 2).bind fun aC=>(spec_DrawSameWay.j0 k aB.2.2.2 aD aC.1 aA.1 aC.2.1 aC.2.2))else(spec_DrawSameWay.j0 k aB.2.2.2 aD false aA.1 aA.2.1 aA.2.2)))else(none))))
theorem spec_DrawSameWay.mono_l: ∀k,(∀y0 y1 y2 y3 y4 y5,LeO (spec_DrawSameWay.j0 k y0 y1 y2 y3 y4 y5) (spec_DrawSameWay.j0 (k+1) y0 y1 y2 y3 y4 y5))
 |0=>fun _ _ _ _ _ _ r h=>by simp[spec_DrawSameWay.j0]at h
 |k+1=>by
  have aA:=spec_DrawSameWay.mono_l k
  ·intro y0 y1 y2 y3 y4 y5
   unfold spec_DrawSameWay.j0
   repeat' first
   |(with_reducible exact aA _ _ _ _ _ _)
   |(with_reducible exact spec_l07All.mono _ _)
   |(with_reducible exact LeO.refl _)
   |(with_reducible exact LeO.none _)
   |(with_reducible refine LeO.ite ?_ ?_)
   |(with_reducible refine LeO.bind ?_ (fun _=>?_))
   |exact LeO.none _
   |refine LeO.ite ?_ ?_
   |refine LeO.bind ?_ (fun _=>?_)
theorem spec_DrawSameWay.mono: ∀a0 k,LeO (spec_DrawSameWay.f k a0) (spec_DrawSameWay.f (k+1) a0):=by
 intro a0 k
 have aA:=spec_DrawSameWay.mono_l k
 unfold spec_DrawSameWay.f
 repeat' first
   |(with_reducible exact aA _ _ _ _ _ _)
   |(with_reducible exact spec_l07All.mono _ _)
   |(with_reducible exact LeO.refl _)
   |(with_reducible exact LeO.none _)
   |(with_reducible refine LeO.ite ?_ ?_)
   |(with_reducible refine LeO.bind ?_ (fun _=>?_))
   |exact LeO.none _
   |refine LeO.ite ?_ ?_
   |refine LeO.bind ?_ (fun _=>?_)
def spec_DrawSameWay.T5:Bool×List (List Nat×List Nat):=(true,[([],[]),([0],[0]),([1],[1]),([2],[2]),([],[]),([4],[4]),([3,5],[3,5]),([0,0,1,2,3,4,5,6],[0]),([7,0,1,2,3,4,5,6],[7]),([8,6,5,0,1,2,3,4,5,6],[6,8])])
def spec_DrawSameWay.B5:List Nat:=[0,1,3,7,0,16,63,127,255,511]
theorem spec_DrawSameWay.tab5:rtab .any (opsOf Tryz.f20 5)=spec_DrawSameWay.T5:=by kernel_rfl
theorem spec_DrawSameWay.bits5:waitsOk spec_DrawSameWay.T5.2 spec_DrawSameWay.B5=true:=by kernel_rfl
theorem qZ8_0 {p q r0 r1:Prop} (h:q) (g0:r0) (g1:r1) (f:q→r0→r1→p:=by intro h_ g0_ g1_;repeat(first|(with_reducible first|exact h_|apply K'|apply F'|apply J'|refine E' ?_ g0_|refine E' ?_ g1_)|exact h_)):p:=f h g0 g1
theorem qZ8_1 {p q r0:Prop} (h:q) (g0:r0) (f:q→r0→p:=by intro h_ g0_;repeat(first|(with_reducible first|exact h_|apply IsS100.alloc|apply IsS100.drewN|apply IsS100.drew|apply IsS100.set_1|apply IsS100.set_2|refine IsS100.far ?_ g0_ _)|exact h_)):p:=f h g0
set_option maxHeartbeats 8000000 in
set_option maxRecDepth 100000 in
theorem spec_DrawSameWay.calls (k:Nat) (A0:Option Addr) (c0:Nat) (l0:List Int) (r1:List (S51)) (r2:List (S51)) (w:World) (fP:Kd.C (Kd.int .u8) w A0 l0.length l0) (fJ:l0.length≤c0) (h:spec_DrawSameWay.f k l0=some (r1,r2)):
  Calls Tryz.prog 20 #[.slice A0 l0.length c0] w fun e w'=>∃v0_ v1_:Value,e= .returned (.tuple #[v0_,v1_])∧Kd.R k51 51 w' w.heap.size (fun k_=>some k_≠(v1_:Value).ownBlock) v0_ r1∧Kd.R k51 51 w' w.heap.size (fun k_=>some k_≠(v0_:Value).ownBlock) v1_ r2∧Below w.heap.size w w':=by
 have gE:=Tryz.underlying25;have gB:=Tryz.underlying51;have fM:=A' fP;have fN:=A' fJ;clear fP fJ;have HB:=A' (Below.refl w.heap.size w);have H:((spec_l07All.f k l0).bind fun cE=>((spec_l00From.f l0).bind fun aZ=>((some (([]:List (S51)):List (S51))).bind fun bF=>(if bF.length+cE.2.2.2.length<8796093022208 then((some (bF ++ cE.2.2.2:List (S51))).bind fun aD=>(if(aD.length:Int) > 0 then((spec_l00Src_one.f aZ.1 aZ.2.1 aZ.2.2 2).bind fun aV=>(spec_DrawSameWay.j0 k cE.2.2.2 aD aV.1 aZ.1 aV.2.1 aV.2.2))else(spec_DrawSameWay.j0 k cE.2.2.2 aD false aZ.1 aZ.2.1 aZ.2.2)))else(none)))))=some (r1,r2):=h;clear h;replace H:=Option.bind_eq_some_iff.mp H;obtain⟨⟨bA,bC,bE,aI⟩,fH,H⟩:=H;replace H:((spec_l00From.f l0).bind fun aZ=>((some (([]:List (S51)):List (S51))).bind fun bF=>(if bF.length+aI.length<8796093022208 then((some (bF ++ aI:List (S51))).bind fun aD=>(if(aD.length:Int) > 0 then((spec_l00Src_one.f aZ.1 aZ.2.1 aZ.2.2 2).bind fun aV=>(spec_DrawSameWay.j0 k aI aD aV.1 aZ.1 aV.2.1 aV.2.2))else(spec_DrawSameWay.j0 k aI aD false aZ.1 aZ.2.1 aZ.2.2)))else(none))))=some (r1,r2):=H;have A2:=A' fH;clear fH;replace H:=Option.bind_eq_some_iff.mp H;obtain⟨⟨aJ,bH,bI⟩,fG,H⟩:=H;replace H:((some (([]:List (S51)):List (S51))).bind fun bF=>(if bF.length+aI.length<8796093022208 then((some (bF ++ aI:List (S51))).bind fun aD=>(if(aD.length:Int) > 0 then((spec_l00Src_one.f aJ bH bI 2).bind fun aV=>(spec_DrawSameWay.j0 k aI aD aV.1 aJ aV.2.1 aV.2.2))else(spec_DrawSameWay.j0 k aI aD false aJ bH bI)))else(none)))=some (r1,r2):=H;have A3:=A' fG;clear fG;obtain⟨bF,bV⟩: ∃y_:List (S51),y_=(([]:List (S51))):=⟨_,rfl⟩
 replace H:(if bF.length+aI.length<8796093022208 then((some (bF ++ aI:List (S51))).bind fun aD=>(if(aD.length:Int) > 0 then((spec_l00Src_one.f aJ bH bI 2).bind fun aV=>(spec_DrawSameWay.j0 k aI aD aV.1 aJ aV.2.1 aV.2.2))else(spec_DrawSameWay.j0 k aI aD false aJ bH bI)))else(none))=some (r1,r2):=by first|(rw[bV];with_reducible exact H)|(have H2_:=(Option.bind_some _ _).symm.trans H;rw[bV];with_reducible exact H2_)|(have H2_:=(Option.bind_some _ _).symm.trans H;with_reducible exact H2_)|with_reducible exact H|(rw[bV];exact H)|exact H
 have cQ:=A' bV;clear bV
 by_cases c4:bF.length+aI.length<8796093022208
 ·rw[if_pos c4]at H;have eZ:=A' c4;clear c4;obtain⟨aD,bT⟩: ∃y_:List (S51),y_=(bF ++ aI):=⟨_,rfl⟩
  replace H:(if(aD.length:Int) > 0 then((spec_l00Src_one.f aJ bH bI 2).bind fun aV=>(spec_DrawSameWay.j0 k aI aD aV.1 aJ aV.2.1 aV.2.2))else(spec_DrawSameWay.j0 k aI aD false aJ bH bI))=some (r1,r2):=by first|(rw[bT];with_reducible exact H)|(have H2_:=(Option.bind_some _ _).symm.trans H;rw[bT];with_reducible exact H2_)|(have H2_:=(Option.bind_some _ _).symm.trans H;with_reducible exact H2_)|with_reducible exact H|(rw[bT];exact H)|exact H
  have dX:=A' bT;clear bT;have eP:=A' H;clear H;go_enter Tryz.func20,Tryz.ntmps20;go_upto_region 4 with (first|((with_reducible refine gate_callee (f:=26) rfl ?_);refine goesL_ (some 10) rfl rfl Tryz.func26 (by kernel_rfl) rfl #[.slice A0 l0.length c0] rfl (by(try simp only[List.map_toArray,List.map_cons,List.map_nil]);first|done|rfl|(simp only[List.length_drop,List.length_take];rfl)) ?_;(with_reducible refine(spec_l07All.calls k _ _ l0 bA bC bE aI _ ?aY ?aX A2.out).mono ?_);(case aY=>exact qT fM.out);(case aX=>exact fN.out);rintro e w6 ⟨fX,rfl,fO,hb⟩;refine⟨_,rfl,?_⟩;have n0_:=A' (Kd.R_lower fO (V' (qK0 HB.out)));have n1_:=A' (W' (qK0 HB.out) hb);clear HB;have aU:=n0_;have HB:=n1_;clear n0_ n1_;(try clear hb);(try clear cG);(try clear hk);(try clear hi);(try clear fO))|((with_reducible refine gate_dst (N:=4) rfl ?_);refine box_event ?hg (N:=4) ?hd (cs:=#[.int .i64 0,.int .i64 0,.bool false]) (t:=25) ?hr ?_;(case hd=>rfl);(case hg=>rfl);(case hr=>first|(go_simp;done)|(go_simp;rfl));intro aK hg w7 hbox hb;have n0_:=A' (L' (qR aU.out) hb);have n1_:=A' (W' (qK0 HB.out) hb);have n2_:=A' (hbox);have n3_:=A' ((by rw[hg];exact(V' (qK0 HB.out)):w.heap.size≤aK));have n4_:=A' ((by rw[hg];exact(V' (qK0 HB.out)):w.heap.size≤aK));clear aU;clear HB;have aU:=n0_;have HB:=n1_;have aE:=n2_;have fK:=n3_;have aQ:=n4_;clear n0_ n1_ n2_ n3_ n4_;clear hb hbox hg;have dI:w7.cell? ⟨aK,0,none⟩=some (.int .i64 0):=(N' aE.out 0).trans rfl;have dB:w7.cell? ⟨aK,1,none⟩=some (.int .i64 0):=(N' aE.out 1).trans rfl;have cX:w7.cell? ⟨aK,2,none⟩=some (.bool false):=(N' aE.out 2).trans rfl;have dH:=Y' aE.out 0;have dG:=Y' aE.out 1;have dC:=Y' aE.out 2)|((with_reducible refine gate_callee (f:=44) rfl ?_);refine goesL_ (some 14) rfl rfl Tryz.func44 (by kernel_rfl) rfl #[.slice A0 l0.length c0] rfl (by(try simp only[List.map_toArray,List.map_cons,List.map_nil]);first|done|rfl|(simp only[List.length_drop,List.length_take];rfl)) ?_;(with_reducible refine(spec_l00From.calls _ _ l0 aJ bH bI w _ ?aY ?aX ?eC A3.out).mono ?_);(case aY=>repeat(first|(with_reducible first|exact HB.out|apply K'|apply F'|apply J'|refine E' ?_ aQ.out)|exact HB.out));(case aX=>exact fM.out);(case eC=>exact fN.out);rintro e w9 ⟨aT,rfl,hi,hb,cG⟩;refine⟨_,rfl,?_⟩;have n0_:=A' (L' (by(with_reducible repeat(first|apply B'|apply C'|apply D'));exact(Q' (M' (p:=⟨aK,2,none⟩) (M' (p:=⟨aK,1,none⟩) (M' (p:=⟨aK,0,none⟩) (P' aU.out aE.out (by decide)) (fun _ hk=>hk.2) (.int .i64 bA)) (fun _ hk=>hk.2) (.int .i64 bC)) (fun _ hk=>hk.2) (.bool bE)) (fun _ h_=>h_.1))) cG);have n1_:=A' (O' (g:=aK) (o:=.cells #[.int .i64 bA,.int .i64 bC,.bool bE] 25 (0,0)) (by(with_reducible repeat(first|refine G' ?_ _|refine I' ?_|refine hA' ?_ _));refine blk_put (cs:=#[.int .i64 bA,.int .i64 bC,.bool false]) ?_ 2 _ rfl;(with_reducible repeat(first|refine G' ?_ _|refine I' ?_|refine hA' ?_ _));refine blk_put (cs:=#[.int .i64 bA,.int .i64 0,.bool false]) ?_ 1 _ rfl;(with_reducible repeat(first|refine G' ?_ _|refine I' ?_|refine hA' ?_ _));refine blk_put (cs:=#[.int .i64 0,.int .i64 0,.bool false]) ?_ 0 _ rfl;(with_reducible repeat(first|refine G' ?_ _|refine I' ?_|refine hA' ?_ _));exact aE.out) cG);have n2_:=A' (hb);have n3_:=A' (hi);have n4_:=A' (IsS100.ne_blk hi (O' (g:=aK) (o:=.cells #[.int .i64 bA,.int .i64 bC,.bool bE] 25 (0,0)) (by(with_reducible repeat(first|refine G' ?_ _|refine I' ?_|refine hA' ?_ _));refine blk_put (cs:=#[.int .i64 bA,.int .i64 bC,.bool false]) ?_ 2 _ rfl;(with_reducible repeat(first|refine G' ?_ _|refine I' ?_|refine hA' ?_ _));refine blk_put (cs:=#[.int .i64 bA,.int .i64 0,.bool false]) ?_ 1 _ rfl;(with_reducible repeat(first|refine G' ?_ _|refine I' ?_|refine hA' ?_ _));refine blk_put (cs:=#[.int .i64 0,.int .i64 0,.bool false]) ?_ 0 _ rfl;(with_reducible repeat(first|refine G' ?_ _|refine I' ?_|refine hA' ?_ _));exact aE.out) cG) (by decide));have n5_:=A' (Ne.symm (IsS100.ne_blk hi (O' (g:=aK) (o:=.cells #[.int .i64 bA,.int .i64 bC,.bool bE] 25 (0,0)) (by(with_reducible repeat(first|refine G' ?_ _|refine I' ?_|refine hA' ?_ _));refine blk_put (cs:=#[.int .i64 bA,.int .i64 bC,.bool false]) ?_ 2 _ rfl;(with_reducible repeat(first|refine G' ?_ _|refine I' ?_|refine hA' ?_ _));refine blk_put (cs:=#[.int .i64 bA,.int .i64 0,.bool false]) ?_ 1 _ rfl;(with_reducible repeat(first|refine G' ?_ _|refine I' ?_|refine hA' ?_ _));refine blk_put (cs:=#[.int .i64 0,.int .i64 0,.bool false]) ?_ 0 _ rfl;(with_reducible repeat(first|refine G' ?_ _|refine I' ?_|refine hA' ?_ _));exact aE.out) cG) (by decide)));clear aU;clear aE;clear HB;have aU:=n0_;have aE:=n1_;have HB:=n2_;have aA:=n3_;have aC:=n4_;have aW:=n5_;clear n0_ n1_ n2_ n3_ n4_ n5_;(try clear hb);(try clear cG);(try clear hk);(try clear hi))|((with_reducible refine gate_dst (N:=15) rfl ?_);refine Kd.R_lit k51 _ 51 ?hg (N:=15) ?hd (xs:=([]:List (S51))) (inner:=[]) (ok:=fun _=>True) (okp:=fun _=>True) ?hr ?hp (fun _ hk=>hk) trivial (Below.refl _ _) (Nat.le_refl _) (by simp) ?_;(case hd=>rfl);(case hg=>rfl);(case hr=>first|(go_simp;done)|(go_simp;rfl));(case hp=>exact(Reps.none _ _));intro eW gI cF hb hg_ hnew_;clear hg_ hnew_;(first|rw[← cQ.out]at cF|(simp only[Int.reduceToNat]at cF;rw[← cQ.out]at cF));have n0_:=A' (Kd.R_elder' (qR aU.out) (Kd.R_base cF) hb);have n1_:=A' (Kd.R_lower (U' cF (Kd.R_lt (qR aU.out))) (V' (qZ8_0 HB.out (IsS100.ge aA.out) aQ.out)));have n2_:=A' (O' (g:=aK) (qB aE.out) hb);have n3_:=A' (IsS100.below (qZ8_1 aA.out aC.out) hb);have n4_:=A' (W' (qZ8_0 HB.out (IsS100.ge aA.out) aQ.out) hb);clear aU;clear aE;clear aA;clear HB;have aU:=n0_;have cC:=n1_;have aE:=n2_;have aA:=n3_;have HB:=n4_;clear n0_ n1_ n2_ n3_ n4_;clear hb cF;obtain⟨cN,cJ,fC⟩:=Kd.R_slice aU.out;subst fC)|((with_reducible refine gate_builtin (b:=.append) (xs:=#[.tmp 15,.tmp 16]) rfl ?_);at_builtin;refine Kd.R_append_rows k51 (w0:=w) w.heap.size rfl (.tmp 15) (.tmp 16) 26 51 (.agg #[(.int .i64 0),(.int .i64 0)]) 16 rfl Tryz.underlying26 info51 rfl (by decide) (by omega) eW bF aI _ _ _ (fun k_=>some k_≠(.slice cN aI.length cJ:Value).ownBlock) (fun _=>False) rfl rfl ?aO ?aR (fun _ _ h=>h) (fun _ h=>h.elim) ?aF ?aB ?aS ?aL ?_;(case aR=>repeat(first|exact(Kd.R_reads' aU.out).2.2|(with_reducible refine R' ?_ _)|(with_reducible refine S' ?_ _)|(with_reducible refine T' ?_)));(case aB=>exact(qZ8_0 HB.out (IsS100.ge aA.out) aQ.out));(case aF=>exact(fun k_ hk=>Kd.fresh' (Kd.R_lt (qR aU.out)) k_ hk));(case aO=>exact(by(with_reducible repeat(first|apply B'|apply C'|apply D'));exact Q' cC.out (fun _ hk=>hk.2)));(case aS=>exact(V' (qZ8_0 HB.out (IsS100.ge aA.out) aQ.out)));(case aL=>have:=eZ.out;omega);intro cW gR ho hb hg hat;rw[← dX.out]at ho;have n0_:=A' (Kd.R_after (ok:=(fun _=>True)) (qR aU.out) hg hat);have n1_:=A' (blk_grown (g:=aK) (o:=.cells #[.int .i64 bA,.int .i64 bC,.bool bE] 25 (0,0)) (qB aE.out) hg (Kd.R_ne cC.out aE.out (by decide)));have n2_:=A' (IsS100.grown (show IsS100 w _ aT aJ bH bI from by repeat(first|(with_reducible first|exact aA.out|apply IsS100.alloc|apply IsS100.drewN|apply IsS100.drew|apply IsS100.set_1|apply IsS100.set_2|refine IsS100.far ?_ aC.out _)|exact aA.out)) hg (IsS100.own_ne aA.out cC.out (by decide)));have n3_:=A' (hb);have n4_:=A' (ho);clear aU;clear aE;clear aA;clear HB;clear cC;have aU:=n0_;have aE:=n1_;have aA:=n2_;have HB:=n3_;have bS:=n4_;clear n0_ n1_ n2_ n3_ n4_;clear ho hb hg hat))
  (try simp only[Act.put,List.setIfInBounds_toArray,List.set_cons_zero,List.set_cons_succ])
  go_cut [24] (fun fU wc=>∃(kq:Nat) (cD:Bool) (aG:Int) (aH:Int),fU= .bool cD∧Aside0 (spec_DrawSameWay.j0 kq aI aD cD aJ aG aH=some (r1,r2))∧Aside0 (kq≤k)∧Aside0 (Kd.R k51 51 wc w.heap.size (fun k_=>some k_≠(cW:Value).ownBlock) (.slice cN aI.length cJ) aI)∧Aside0 (Kd.R k51 51 wc w.heap.size (fun k_=>some k_≠((.slice cN aI.length cJ):Value).ownBlock) cW aD)∧Aside0 (wc.heap[aK]? =some (.cells #[.int .i64 bA,.int .i64 bC,.bool bE] 25 (0,0)))∧Aside0 (IsS100 w wc aT aJ aG aH)∧Aside0 (Below w.heap.size w wc))
  case first=>
   have H:=eP.out;clear eP
   by_cases c14:(aD.length:Int) > 0
   ·rw[if_pos c14]at H;have c14b0:decide (0<(aD.length:Int))=true:=dT' c14;have c14b1:decide (0<aD.length)=true:=dT' (by omega);clear c14;(first|rw[c14b0]|(simp only[i64_w,i32_w];rw[c14b0])|skip);replace H:=Option.bind_eq_some_iff.mp H;obtain⟨⟨dE,dF,dM⟩,eF,H⟩:=H;replace H:(spec_DrawSameWay.j0 k aI aD dE aJ dF dM)=some (r1,r2):=H;have fV:=A' eF;clear eF;have H':=A' H;clear H;obtain⟨fZ,gD,eY⟩:=Kd.R_slice bS.out;subst eY;go_wp2_with (first|(go_at_call 52;(with_reducible refine(spec_l00Src_one.calls aT aJ bH bI 2 dE dF dM w _ ?aY ?aX fV.out).mono ?_);(case aY=>repeat(first|(with_reducible first|exact aA.out|apply IsS100.alloc|apply IsS100.drewN|apply IsS100.drew|apply IsS100.set_1|apply IsS100.set_2|refine IsS100.far ?_ aC.out _)|exact aA.out));(case aX=>repeat(first|(with_reducible first|exact HB.out|apply K'|apply F'|apply J'|refine E' ?_ (IsS100.ge aA.out)|refine E' ?_ aQ.out)|exact HB.out));rintro e gS ⟨rfl,hi,hb,hk⟩;replace aU:=A' (Q' (Kd.R_keep (IsS100.apart (show IsS100 w _ aT aJ bH bI from by repeat(first|(with_reducible first|exact aA.out|apply IsS100.alloc|apply IsS100.drewN|apply IsS100.drew|apply IsS100.set_1|apply IsS100.set_2|refine IsS100.far ?_ aC.out _)|exact aA.out)) (qR aU.out) (by decide)) hk (fun _ h=>h.2)) (fun _ h=>h.1));replace aE:=A' (KeepBut.blk hk (g':=aK) (o:=.cells #[.int .i64 bA,.int .i64 bC,.bool bE] 25 (0,0)) (qB aE.out) aW.out (by simp));replace bS:=A' (Q' (Kd.R_keep (IsS100.apart (show IsS100 w _ aT aJ bH bI from by repeat(first|(with_reducible first|exact aA.out|apply IsS100.alloc|apply IsS100.drewN|apply IsS100.drew|apply IsS100.set_1|apply IsS100.set_2|refine IsS100.far ?_ aC.out _)|exact aA.out)) (qR bS.out) (by decide)) hk (fun _ h=>h.2)) (fun _ h=>h.1));replace HB:=A' (hb);replace aA:=A' (hi);(try clear hb);(try clear cG);(try clear hk);(try clear hi)))
    go_meet
    case rel=>exact⟨_,(dE),(dF),(dM),qS,H',⟨by first|omega|exact Nat.le_refl _⟩,⟨by(with_reducible repeat(first|apply B'|apply C'|apply D'));exact Q' aU.out (fun _ hk=>hk.2)⟩,⟨qR bS.out⟩,⟨qB aE.out⟩,⟨qZ8_1 aA.out aC.out⟩,⟨qZ8_0 HB.out (IsS100.ge aA.out) aQ.out⟩⟩
   ·rw[if_neg c14]at H;have c14b0:decide (0<(aD.length:Int))=false:=dF' c14;have c14b1:decide (0<aD.length)=false:=dF' (by omega);clear c14;(first|rw[c14b0]|(simp only[i64_w,i32_w];rw[c14b0])|skip);have H':=A' H;clear H;obtain⟨gG,fT,fE⟩:=Kd.R_slice bS.out;subst fE;go_wp2
    go_meet
    case rel=>exact⟨_,(false),(bH),(bI),qS,H',⟨by first|omega|exact Nat.le_refl _⟩,⟨by(with_reducible repeat(first|apply B'|apply C'|apply D'));exact Q' aU.out (fun _ hk=>hk.2)⟩,⟨qR bS.out⟩,⟨qB aE.out⟩,⟨qZ8_1 aA.out aC.out⟩,⟨qZ8_0 HB.out (IsS100.ge aA.out) aQ.out⟩⟩
  case rest=>
   clear eP;try clear c1
   try clear c2
   try clear p2
   try clear c4
   try clear c14
   try clear c14b0
   try clear c14b1
   try clear dI
   try clear dB
   try clear cX
   try clear dH
   try clear dG
   try clear dC
   obtain⟨kq,cD,aG,aH,rfl,HA,gM,HO_5,HO_7,aE,aA,HB⟩:=hcut
   cases kq with
   |zero=>exact absurd HA.out (by simp[spec_DrawSameWay.j0])
   |succ gP=>
    have H:=HA.out;clear HA;simp only[spec_DrawSameWay.j0]at H
    by_cases eN:cD=true
    ·subst eN;have H1:(if 0<(aD.length:Int)then((spec_l00Src_pick.f aJ aG aH 2).bind fun cH=>((some (aD.set (0:Int).toNat (⟨(rd_T51 aD 0).f0,wrap64 (((rd_T51 aD 0).f1)+cH.1)⟩:S51):List (S51))).bind fun bB=>((spec_l00Src_one.f aJ cH.2.1 cH.2.2 5).bind fun bW=>(if bW.1=true then(if bB.length<8796093022208 then(some (aI,(bB ++ [(⟨0,0⟩:S51)])))else(none))else(some (aI,bB))))))else(none))=some (r1,r2):=by rw[if_pos rfl]at H;exact H
     clear H;have H:=H1;clear H1
     by_cases c20:0<(aD.length:Int)
     ·rw[if_pos c20]at H;have c20b0:decide (0<(aD.length:Int))=true:=dT' c20;have c20b1:decide (0<aD.length)=true:=dT' (by omega);clear c20;replace H:=Option.bind_eq_some_iff.mp H;obtain⟨⟨bG,bR,bQ⟩,dW,H⟩:=H;replace H:((some (aD.set (0:Int).toNat (⟨(rd_T51 aD 0).f0,wrap64 (((rd_T51 aD 0).f1)+bG)⟩:S51):List (S51))).bind fun bB=>((spec_l00Src_one.f aJ bR bQ 5).bind fun bW=>(if bW.1=true then(if bB.length<8796093022208 then(some (aI,(bB ++ [(⟨0,0⟩:S51)])))else(none))else(some (aI,bB)))))=some (r1,r2):=H;have fI:=A' dW;clear dW;obtain⟨bB,bY⟩: ∃y_:List (S51),y_=(aD.set (0:Int).toNat (⟨(rd_T51 aD 0).f0,wrap64 (((rd_T51 aD 0).f1)+bG)⟩:S51)):=⟨_,rfl⟩
      replace H:((spec_l00Src_one.f aJ bR bQ 5).bind fun bW=>(if bW.1=true then(if bB.length<8796093022208 then(some (aI,(bB ++ [(⟨0,0⟩:S51)])))else(none))else(some (aI,bB))))=some (r1,r2):=by first|(rw[bY];with_reducible exact H)|(have H2_:=(Option.bind_some _ _).symm.trans H;rw[bY];with_reducible exact H2_)|(have H2_:=(Option.bind_some _ _).symm.trans H;with_reducible exact H2_)|with_reducible exact H|(rw[bY];exact H)|exact H
      have cU:=A' bY;clear bY;replace H:=Option.bind_eq_some_iff.mp H;obtain⟨⟨dY,dD,dK⟩,dV,H⟩:=H;replace H:(if dY=true then(if bB.length<8796093022208 then(some (aI,(bB ++ [(⟨0,0⟩:S51)])))else(none))else(some (aI,bB)))=some (r1,r2):=H;have fL:=A' dV;clear dV
      by_cases eM:dY=true
      ·subst eM;have H1:(if bB.length<8796093022208 then(some (aI,(bB ++ [(⟨0,0⟩:S51)])))else(none))=some (r1,r2):=by rw[if_pos rfl]at H;exact H
       clear H;have H:=H1;clear H1
       by_cases c25:bB.length<8796093022208
       ·rw[if_pos c25]at H;have eK:=A' c25;clear c25;obtain⟨eR,bU⟩: ∃y_:List (S51),y_=(bB ++ [(⟨0,0⟩:S51)]):=⟨_,rfl⟩
        replace H:(some (aI,eR))=some (r1,r2):=by first|(rw[bU];with_reducible exact H)|(have H2_:=(Option.bind_some _ _).symm.trans H;rw[bU];with_reducible exact H2_)|(have H2_:=(Option.bind_some _ _).symm.trans H;with_reducible exact H2_)|with_reducible exact H|(rw[bU];exact H)|exact H
        have dU:=A' bU;clear bU;simp only[Option.some.injEq,Prod.mk.injEq]at H;obtain⟨rfl,rfl⟩:=H;try go_wp2
        replace HO_5:=A' (D' HO_5.out);replace HO_7:=A' (D' HO_7.out);replace aE:=A' (I' aE.out);replace aA:=A' (IsS100.drew aA.out);replace HB:=A' (J' HB.out);obtain⟨fQ,eX,eA⟩:=Kd.R_slice HO_7.out;(first|subst eA|(injection eA with f1_ f2_ f3_;have f4_:=f1_.symm;have f5_:=f3_.symm;clear f1_ f2_ f3_;subst f4_;subst f5_));have cA:0≤(0:Int):=(by omega)
        have bZ:0<(aD.length:Int):=oD' qA;obtain⟨bN,cY,aN,aM⟩:=at_T51 (Kd.R_reads' HO_7.out).2.2 0 cA bZ
        cases cY
        have dT:(0<aD.length)=True:=eq_true (by omega);(try rw[show((0:Int)).toNat=0 from rfl]at aN);(try rw[show 0*2=0 from rfl]at aN);(try rw[Addr.add_zero']at aN);(try rw[show((0:Int)).toNat=0 from rfl]at aM);(try rw[show 0*2=0 from rfl]at aM);(try rw[Addr.add_zero']at aM);replace cA:=eq_true cA;replace bZ:=eq_true bZ;refine start_ (n:=10) (S:=fun w'=>w'.cell? bN=some (.int .i64 ((rd_T51 aD 0).f0))∧w'.cell? ⟨bN.block,bN.off+1,none⟩=some (.int .i64 ((rd_T51 aD 0).f1))) (ds:=[9]) #[n',n',n',n',n',n',n',n',n',n'] (by kernel_rfl) rfl rfl ⟨aN,aM⟩ (fun hHeld=>?_);refine with_tabW spec_DrawSameWay.tab5 spec_DrawSameWay.bits5 (fun HT_ HW_=>?_)
        generalize wc.drew=w26 at HO_5 HO_7 aE aA HB aN aM hHeld ⊢
        refine pure_ (i:=0) (N:=some 25) (v:=?_) (a':=?_) #[y',n',n',n',n',n',n',n',n',n'] rfl rfl (any_of HT_.out (by kernel_rfl)) (fun _ _ _ h=>h) (Or.inl ⟨by rfl,?_⟩) ?_ ?_;rotate_left
        ·exact qI
        rotate_left
        ·exact qP
        refine pure_ (i:=1) (N:=some 26) (v:=?_) (a':=?_) #[y',y',n',n',n',n',n',n',n',n'] rfl rfl (any_of HT_.out (by kernel_rfl)) (fun _ _ _ h=>h) (Or.inl ⟨by rfl,?_⟩) ?_ ?_;rotate_left
        ·exact qI
        rotate_left
        ·exact qP
        refine pure_ (i:=2) (N:=some 27) (v:=?_) (a':=?_) #[y',y',y',n',n',n',n',n',n',n'] rfl rfl (any_of HT_.out (by kernel_rfl)) (fun _ _ _ h=>h) (Or.inl ⟨by rfl,?_⟩) ?_ ?_;rotate_left
        ·exact qI
        rotate_left
        ·exact qP
        refine pure_ (i:=4) (N:=some 29) (v:=?_) (a':=?_) #[y',y',y',n',y',n',n',n',n',n'] rfl rfl (any_of HT_.out (by kernel_rfl)) (fun _ _ _ h=>h) (Or.inl ⟨by rfl,?_⟩) ?_ ?_;rotate_left
        ·exact qI
        rotate_left
        ·exact qP
        refine take_ (i:=3) (N:=some 28) (v:=?_) (a':=?_) #[y',y',y',y',y',n',n',n',n',n'] rfl rfl (take_ofW HT_.out HW_.out (by kernel_rfl)) (fun _ _ _ h=>h) (Or.inl ⟨by rfl,?_⟩) hHeld ?_ ?_;rotate_left
        ·rintro w' ⟨s0,s1⟩;go_simp;with_reducible rfl
        rotate_left
        ·exact qP
        refine one_ (i:=5) (N:=some 30) #[y',y',y',y',y',y',n',n',n',n'] rfl rfl (one_of HT_.out (by kernel_rfl)) (by decide) (fun K hK=>?_);refine goes_ Tryz.func48 (by kernel_rfl) rfl #[.pointer (some ⟨aT,0,none⟩),.int .i64 2] (by rfl) rfl rfl (by(try simp only[List.map_toArray,List.map_cons,List.map_nil]);first|done|rfl|(simp only[List.length_drop,List.length_take];rfl)) ?_
        with_reducible refine(spec_l00Src_pick.calls aT aJ aG aH 2 bG bR bQ w _ ?aY ?aX fI.out).mono ?_
        (case aY=>repeat(first|(with_reducible first|exact aA.out|apply IsS100.alloc|apply IsS100.drewN|apply IsS100.drew|apply IsS100.set_1|apply IsS100.set_2|refine IsS100.far ?_ aC.out _)|exact aA.out));(case aX=>repeat(first|(with_reducible first|exact HB.out|apply K'|apply F'|apply J'|refine E' ?_ (IsS100.ge aA.out)|refine E' ?_ aQ.out)|exact HB.out));rintro e gN ⟨rfl,hi,hb,hk⟩;have HS0_:=keep_cell hk (hHeld.1) (by first|(rw[add_block];exact Kd.own_blk (IsS100.own_ne aA.out HO_7.out (by decide)))|(show(Addr.add _ _).block≠_;rw[add_block];exact Kd.own_blk (IsS100.own_ne aA.out HO_7.out (by decide)))|exact Kd.own_blk (IsS100.own_ne aA.out HO_7.out (by decide))|(dsimp only;exact Kd.own_blk (IsS100.own_ne aA.out HO_7.out (by decide))));have HS1_:=keep_cell hk (hHeld.2) (by first|(rw[add_block];exact Kd.own_blk (IsS100.own_ne aA.out HO_7.out (by decide)))|(show(Addr.add _ _).block≠_;rw[add_block];exact Kd.own_blk (IsS100.own_ne aA.out HO_7.out (by decide)))|exact Kd.own_blk (IsS100.own_ne aA.out HO_7.out (by decide))|(dsimp only;exact Kd.own_blk (IsS100.own_ne aA.out HO_7.out (by decide))));refine⟨_,rfl,?_⟩;replace HO_5:=A' (Q' (Kd.R_keep (IsS100.apart (show IsS100 w _ aT aJ aG aH from by repeat(first|(with_reducible first|exact aA.out|apply IsS100.alloc|apply IsS100.drewN|apply IsS100.drew|apply IsS100.set_1|apply IsS100.set_2|refine IsS100.far ?_ aC.out _)|exact aA.out)) (qR HO_5.out) (by decide)) hk (fun _ h=>h.2)) (fun _ h=>h.1));replace HO_7:=A' (Q' (Kd.R_keep (IsS100.apart (show IsS100 w _ aT aJ aG aH from by repeat(first|(with_reducible first|exact aA.out|apply IsS100.alloc|apply IsS100.drewN|apply IsS100.drew|apply IsS100.set_1|apply IsS100.set_2|refine IsS100.far ?_ aC.out _)|exact aA.out)) (qR HO_7.out) (by decide)) hk (fun _ h=>h.2)) (fun _ h=>h.1));replace aE:=A' (KeepBut.blk hk (g':=aK) (o:=.cells #[.int .i64 bA,.int .i64 bC,.bool bE] 25 (0,0)) (qB aE.out) aW.out (by simp));replace HB:=A' (hb);replace aA:=A' (hi);(try clear hb);(try clear cG);(try clear hk);(try clear hi);have dN:0≤(0:Int):=(by omega)
        have dJ:(0:Int)<((aD.length:Int):Int):=oD' qA;have fD:(0<aD.length)=True:=eq_true (by omega);obtain⟨bD,fB,cM,cI,cZ,eU,cL⟩:=Kd.R_form HO_7.out (by omega);(first|cases cM|(injection cM with ea_ en_ ec_;(first|subst ea_|(injection ea_ with ea_;subst ea_));subst ec_;clear en_));have dP:=A' cI;have eS:=A' cL;clear cI cZ cL;(first|simp only[add_plain]at aN|skip);(first|simp only[add_plain]at aM|skip);obtain⟨eT,cO,cK,bK,bO⟩:=Kd.R_elem HO_7.out z51 (0:Int) dN dJ;obtain rfl:=k51_openM cK;have bP:World.cell? _ ⟨bD,(0:Int).toNat*2,none⟩=some (.int .i64 ((rd_T51 aD 0).f0)):=bK 0 _ rfl;have bL:World.cell? _ ⟨bD,(0:Int).toNat*2+1,none⟩=some (.int .i64 ((rd_T51 aD 0).f1)):=bK 1 _ rfl;have bM:World.frozen? _ ⟨bD,(0:Int).toNat*2,none⟩=false:=bO 0;have bJ:World.frozen? _ ⟨bD,(0:Int).toNat*2+1,none⟩=false:=bO 1;clear cO bK bO cK;(try rw[show((0:Int)).toNat=0 from rfl]at bP);(try simp only[Nat.reduceMul,Nat.zero_mul,Nat.zero_add,Nat.reduceAdd]at bP);(try rw[show((0:Int)).toNat=0 from rfl]at bM);(try simp only[Nat.reduceMul,Nat.zero_mul,Nat.zero_add,Nat.reduceAdd]at bM);(try rw[show((0:Int)).toNat=0 from rfl]at bL);(try simp only[Nat.reduceMul,Nat.zero_mul,Nat.zero_add,Nat.reduceAdd]at bL);(try rw[show((0:Int)).toNat=0 from rfl]at bJ);(try simp only[Nat.reduceMul,Nat.zero_mul,Nat.zero_add,Nat.reduceAdd]at bJ);replace dN:=eq_true dN;replace dJ:=eq_true dJ;have HN591_go22:=A' (show aT≠bD from by have h_:=IsS100.own_ne aA.out HO_7.out (by decide);intro e_;exact h_ (by rw[e_];rfl));obtain⟨fR,cT,dZ,cP,eE⟩:=Kd.R_elem HO_7.out z51 (0:Int) (by omega) (by have h_:(0:Int)<((aD.length:Int):Int):=oD' qA;first|exact h_|(have e_:=(Kd.R_reads' HO_7.out).1;omega)|simpa using h_);obtain rfl:=k51_openM dZ;have dA:=(Kd.R_seg HO_7.out (0:Int) (by omega) (by have h_:(0:Int)<((aD.length:Int):Int):=oD' qA;first|exact h_|(have e_:=(Kd.R_reads' HO_7.out).1;omega)|simpa using h_) (seg:=[.int .i64 (wrap64 (((rd_T51 aD 0).f1)+bG))]) (j:=1) cT cP (show 2≤2 from by decide) (x':=(⟨(rd_T51 aD 0).f0,wrap64 (((rd_T51 aD 0).f1)+bG)⟩:S51)) (k51_mkM _ _ _ (⟨(rd_T51 aD 0).f0,wrap64 (((rd_T51 aD 0).f1)+bG)⟩:S51)) (fun _ hk=>hk)).1;rw[← cU.out]at dA;have eQ:=A' dA;clear cT cP eE dZ dA;refine hK.out _ _ ⟨HS0_,HS1_⟩ (fun hHeld=>?_);clear hK K;refine norm_ (a':=?_) ?_ ?_;rotate_left
        ·show Act.put _ (some 30) _=_
         exact qP
        refine pure_ (i:=6) (N:=some 31) (v:=?_) (a':=?_) #[y',y',y',y',y',y',y',n',n',n'] rfl rfl (any_of HT_.out (by kernel_rfl)) (fun _ _ _ h=>h) (Or.inl ⟨by rfl,?_⟩) ?_ ?_;rotate_left
        ·exact qI
        rotate_left
        ·exact qP
        refine pure_ (i:=7) (N:=some 32) (v:=?_) (a':=?_) #[y',y',y',y',y',y',y',y',n',n'] rfl rfl (any_of HT_.out (by kernel_rfl)) (fun _ _ _ h=>h) (Or.inl ⟨by rfl,?_⟩) ?_ ?_;rotate_left
        ·exact qI
        rotate_left
        ·exact qP
        refine pure_ (i:=8) (N:=some 33) (v:=?_) (a':=?_) #[y',y',y',y',y',y',y',y',y',n'] rfl rfl (any_of HT_.out (by kernel_rfl)) (fun _ _ _ h=>h) (Or.inl ⟨by rfl,?_⟩) ?_ ?_;rotate_left
        ·exact qI
        rotate_left
        ·exact qP
        refine last_ (i:=9) (N:=none) #[y',y',y',y',y',y',y',y',y',y'] rfl rfl (one_of HT_.out (by kernel_rfl)) (by decide) (fun K hK=>?_);refine skip_ (w1:=?_) (by rfl) rfl ?_ ?_;rotate_left
        ·go_simp
         rfl
        refine hK.out _ _ ?_;clear hK K;refine done_ (done_of HT_.out (by kernel_rfl)) ?_;try go_wp2_with (first|((with_reducible refine gate_callee (f:=52) rfl ?_);refine goesL_ (some 35) rfl rfl Tryz.func52 (by kernel_rfl) rfl #[.pointer (some ⟨aT,0,none⟩),.int .i64 5] rfl (by(try simp only[List.map_toArray,List.map_cons,List.map_nil]);first|done|rfl|(simp only[List.length_drop,List.length_take];rfl)) ?_;(with_reducible refine(spec_l00Src_one.calls aT aJ bR bQ 5 true dD dK w _ ?aY ?aX fL.out).mono ?_);(case aY=>repeat(first|(with_reducible first|exact aA.out|apply IsS100.alloc|apply IsS100.drewN|apply IsS100.drew|apply IsS100.set_1|apply IsS100.set_2|refine IsS100.far ?_ HN591_go22.out _|refine IsS100.far ?_ aC.out _)|exact aA.out));(case aX=>repeat(first|(with_reducible first|exact HB.out|apply K'|apply F'|apply J'|refine E' ?_ dP.out|refine E' ?_ (IsS100.ge aA.out)|refine E' ?_ aQ.out)|exact HB.out));rintro e gO ⟨rfl,hi,hb,hk⟩;refine⟨_,rfl,?_⟩;have n0_:=A' (Q' (Kd.R_keep (IsS100.apart (show IsS100 w _ aT aJ bR bQ from by repeat(first|(with_reducible first|exact aA.out|apply IsS100.alloc|apply IsS100.drewN|apply IsS100.drew|apply IsS100.set_1|apply IsS100.set_2|refine IsS100.far ?_ HN591_go22.out _|refine IsS100.far ?_ aC.out _)|exact aA.out)) (by(with_reducible repeat(first|apply B'|apply C'|apply D'));exact(Q' (M' (p:=⟨bD,1,none⟩) (Q' HO_5.out (fun k_ hk=>(⟨hk,fun e_=>hk (by rw[e_];rfl)⟩:_∧k_≠bD))) (fun _ hk=>hk.2) (.int .i64 (wrap64 (((rd_T51 aD 0).f1)+bG)))) (fun _ h_=>h_.1))) (by decide)) hk (fun _ h=>h.2)) (fun _ h=>h.1));have n1_:=A' (Q' (Kd.R_keep (IsS100.apart (show IsS100 w _ aT aJ bR bQ from by repeat(first|(with_reducible first|exact aA.out|apply IsS100.alloc|apply IsS100.drewN|apply IsS100.drew|apply IsS100.set_1|apply IsS100.set_2|refine IsS100.far ?_ HN591_go22.out _|refine IsS100.far ?_ aC.out _)|exact aA.out)) (qR eQ.out) (by decide)) hk (fun _ h=>h.2)) (fun _ h=>h.1));have n2_:=A' (KeepBut.blk hk (g':=aK) (o:=.cells #[.int .i64 bA,.int .i64 bC,.bool bE] 25 (0,0)) (by(with_reducible repeat(first|refine G' ?_ _|refine I' ?_|refine hA' ?_ _));refine bF' ?_ (by have h_:=Kd.R_ne HO_7.out aE.out (by decide);intro e_;exact h_ (by rw[e_];rfl)) _;(with_reducible repeat(first|refine G' ?_ _|refine I' ?_|refine hA' ?_ _));exact aE.out) aW.out (by simp));have n3_:=A' (hb);have n4_:=A' (hi);clear HO_5;clear HO_7;clear aE;clear HB;clear aA;have HO_5:=n0_;have HO_7:=n1_;have aE:=n2_;have HB:=n3_;have aA:=n4_;clear n0_ n1_ n2_ n3_ n4_;(try clear hb);(try clear cG);(try clear hk);(try clear hi))|((with_reducible refine gate_builtin (b:=.append) (xs:=#[.tmp 36,.tmp 38]) rfl ?_);at_builtin;refine Kd.R_append k51 (w0:=w) w.heap.size rfl (.tmp 36) (.tmp 38) 26 51 (.agg #[(.int .i64 0),(.int .i64 0)]) 16 rfl Tryz.underlying26 info51 rfl (by decide) (by omega) (.slice (some ⟨bD,0,none⟩) aD.length eX) bB (⟨0,0⟩:S51) [.int .i64 0,.int .i64 0] (fun k_=>some k_≠(.slice cN aI.length cJ:Value).ownBlock) (fun _=>False) rfl rfl ?aP (fun _ hk=>hk.elim) ?aF ?aO ?aB ?aS ?aL ?_;(case aP=>exact k51_mkM _ _ _ (⟨0,0⟩:S51));(case aB=>exact(qZ8_0 HB.out (IsS100.ge aA.out) aQ.out));(case aF=>exact(fun k_ hk=>Kd.fresh' (Kd.R_lt (qR HO_5.out)) k_ hk));(case aO=>exact(qR HO_7.out));(case aS=>exact(V' (qZ8_0 HB.out (IsS100.ge aA.out) aQ.out)));(case aL=>have:=eK.out;omega);intro gC gK ho hb hg hat;rw[← dU.out]at ho;have n0_:=A' (Kd.R_after (ok:=(fun _=>True)) (by(with_reducible repeat(first|apply B'|apply C'|apply D'));exact Q' HO_5.out (fun _ hk=>⟨trivial,hk⟩)) hg hat);have n1_:=A' (blk_grown (g:=aK) (o:=.cells #[.int .i64 bA,.int .i64 bC,.bool bE] 25 (0,0)) (qB aE.out) hg (Kd.R_ne HO_7.out aE.out (by decide)));have n2_:=A' (IsS100.grown (show IsS100 w _ aT aJ dD dK from by repeat(first|(with_reducible first|exact aA.out|apply IsS100.alloc|apply IsS100.drewN|apply IsS100.drew|apply IsS100.set_1|apply IsS100.set_2|refine IsS100.far ?_ aC.out _)|exact aA.out)) hg (IsS100.own_ne aA.out HO_7.out (by decide)));have n3_:=A' (hb);have n4_:=A' (ho);clear HO_5;clear aE;clear aA;clear HB;clear HO_7;have HO_5:=n0_;have aE:=n1_;have aA:=n2_;have HB:=n3_;have dQ:=n4_;clear n0_ n1_ n2_ n3_ n4_;clear ho hb hg hat))
        go_ret2;exact⟨_,_,qE,by(with_reducible repeat(first|apply B'|apply C'|apply D'));exact Q' HO_5.out (fun _ hk=>hk.2),qR dQ.out,qZ8_0 HB.out (IsS100.ge aA.out) aQ.out⟩
       ·rw[if_neg c25]at H;exact absurd H (by simp)
      ·replace eM:=Bool.eq_false_iff.mpr eM;subst eM;have H1:(some (aI,bB))=some (r1,r2):=by rw[if_neg (show¬(false=true) by decide)]at H;exact H
       clear H;have H:=H1;clear H1;simp only[Option.some.injEq,Prod.mk.injEq]at H;obtain⟨rfl,rfl⟩:=H;try go_wp2
       replace HO_5:=A' (D' HO_5.out);replace HO_7:=A' (D' HO_7.out);replace aE:=A' (I' aE.out);replace aA:=A' (IsS100.drew aA.out);replace HB:=A' (J' HB.out);obtain⟨gA,gF,eL⟩:=Kd.R_slice HO_7.out;(first|subst eL|(injection eL with f1_ f2_ f3_;have f4_:=f1_.symm;have f5_:=f3_.symm;clear f1_ f2_ f3_;subst f4_;subst f5_));have cA:0≤(0:Int):=(by omega)
       have bZ:0<(aD.length:Int):=oD' qA;obtain⟨bN,cY,aN,aM⟩:=at_T51 (Kd.R_reads' HO_7.out).2.2 0 cA bZ
       cases cY
       have dT:(0<aD.length)=True:=eq_true (by omega);(try rw[show((0:Int)).toNat=0 from rfl]at aN);(try rw[show 0*2=0 from rfl]at aN);(try rw[Addr.add_zero']at aN);(try rw[show((0:Int)).toNat=0 from rfl]at aM);(try rw[show 0*2=0 from rfl]at aM);(try rw[Addr.add_zero']at aM);replace cA:=eq_true cA;replace bZ:=eq_true bZ;refine start_ (n:=10) (S:=fun w'=>w'.cell? bN=some (.int .i64 ((rd_T51 aD 0).f0))∧w'.cell? ⟨bN.block,bN.off+1,none⟩=some (.int .i64 ((rd_T51 aD 0).f1))) (ds:=[9]) #[n',n',n',n',n',n',n',n',n',n'] (by kernel_rfl) rfl rfl ⟨aN,aM⟩ (fun hHeld=>?_);refine with_tabW spec_DrawSameWay.tab5 spec_DrawSameWay.bits5 (fun HT_ HW_=>?_)
       generalize wc.drew=w32 at HO_5 HO_7 aE aA HB aN aM hHeld ⊢
       refine pure_ (i:=0) (N:=some 25) (v:=?_) (a':=?_) #[y',n',n',n',n',n',n',n',n',n'] rfl rfl (any_of HT_.out (by kernel_rfl)) (fun _ _ _ h=>h) (Or.inl ⟨by rfl,?_⟩) ?_ ?_;rotate_left
       ·exact qI
       rotate_left
       ·exact qP
       refine pure_ (i:=1) (N:=some 26) (v:=?_) (a':=?_) #[y',y',n',n',n',n',n',n',n',n'] rfl rfl (any_of HT_.out (by kernel_rfl)) (fun _ _ _ h=>h) (Or.inl ⟨by rfl,?_⟩) ?_ ?_;rotate_left
       ·exact qI
       rotate_left
       ·exact qP
       refine pure_ (i:=2) (N:=some 27) (v:=?_) (a':=?_) #[y',y',y',n',n',n',n',n',n',n'] rfl rfl (any_of HT_.out (by kernel_rfl)) (fun _ _ _ h=>h) (Or.inl ⟨by rfl,?_⟩) ?_ ?_;rotate_left
       ·exact qI
       rotate_left
       ·exact qP
       refine pure_ (i:=4) (N:=some 29) (v:=?_) (a':=?_) #[y',y',y',n',y',n',n',n',n',n'] rfl rfl (any_of HT_.out (by kernel_rfl)) (fun _ _ _ h=>h) (Or.inl ⟨by rfl,?_⟩) ?_ ?_;rotate_left
       ·exact qI
       rotate_left
       ·exact qP
       refine take_ (i:=3) (N:=some 28) (v:=?_) (a':=?_) #[y',y',y',y',y',n',n',n',n',n'] rfl rfl (take_ofW HT_.out HW_.out (by kernel_rfl)) (fun _ _ _ h=>h) (Or.inl ⟨by rfl,?_⟩) hHeld ?_ ?_;rotate_left
       ·rintro w' ⟨s0,s1⟩;go_simp;with_reducible rfl
       rotate_left
       ·exact qP
       refine one_ (i:=5) (N:=some 30) #[y',y',y',y',y',y',n',n',n',n'] rfl rfl (one_of HT_.out (by kernel_rfl)) (by decide) (fun K hK=>?_);refine goes_ Tryz.func48 (by kernel_rfl) rfl #[.pointer (some ⟨aT,0,none⟩),.int .i64 2] (by rfl) rfl rfl (by(try simp only[List.map_toArray,List.map_cons,List.map_nil]);first|done|rfl|(simp only[List.length_drop,List.length_take];rfl)) ?_
       with_reducible refine(spec_l00Src_pick.calls aT aJ aG aH 2 bG bR bQ w _ ?aY ?aX fI.out).mono ?_
       (case aY=>repeat(first|(with_reducible first|exact aA.out|apply IsS100.alloc|apply IsS100.drewN|apply IsS100.drew|apply IsS100.set_1|apply IsS100.set_2|refine IsS100.far ?_ aC.out _)|exact aA.out));(case aX=>repeat(first|(with_reducible first|exact HB.out|apply K'|apply F'|apply J'|refine E' ?_ (IsS100.ge aA.out)|refine E' ?_ aQ.out)|exact HB.out));rintro e gL ⟨rfl,hi,hb,hk⟩;have HS0_:=keep_cell hk (hHeld.1) (by first|(rw[add_block];exact Kd.own_blk (IsS100.own_ne aA.out HO_7.out (by decide)))|(show(Addr.add _ _).block≠_;rw[add_block];exact Kd.own_blk (IsS100.own_ne aA.out HO_7.out (by decide)))|exact Kd.own_blk (IsS100.own_ne aA.out HO_7.out (by decide))|(dsimp only;exact Kd.own_blk (IsS100.own_ne aA.out HO_7.out (by decide))));have HS1_:=keep_cell hk (hHeld.2) (by first|(rw[add_block];exact Kd.own_blk (IsS100.own_ne aA.out HO_7.out (by decide)))|(show(Addr.add _ _).block≠_;rw[add_block];exact Kd.own_blk (IsS100.own_ne aA.out HO_7.out (by decide)))|exact Kd.own_blk (IsS100.own_ne aA.out HO_7.out (by decide))|(dsimp only;exact Kd.own_blk (IsS100.own_ne aA.out HO_7.out (by decide))));refine⟨_,rfl,?_⟩;replace HO_5:=A' (Q' (Kd.R_keep (IsS100.apart (show IsS100 w _ aT aJ aG aH from by repeat(first|(with_reducible first|exact aA.out|apply IsS100.alloc|apply IsS100.drewN|apply IsS100.drew|apply IsS100.set_1|apply IsS100.set_2|refine IsS100.far ?_ aC.out _)|exact aA.out)) (qR HO_5.out) (by decide)) hk (fun _ h=>h.2)) (fun _ h=>h.1));replace HO_7:=A' (Q' (Kd.R_keep (IsS100.apart (show IsS100 w _ aT aJ aG aH from by repeat(first|(with_reducible first|exact aA.out|apply IsS100.alloc|apply IsS100.drewN|apply IsS100.drew|apply IsS100.set_1|apply IsS100.set_2|refine IsS100.far ?_ aC.out _)|exact aA.out)) (qR HO_7.out) (by decide)) hk (fun _ h=>h.2)) (fun _ h=>h.1));replace aE:=A' (KeepBut.blk hk (g':=aK) (o:=.cells #[.int .i64 bA,.int .i64 bC,.bool bE] 25 (0,0)) (qB aE.out) aW.out (by simp));replace HB:=A' (hb);replace aA:=A' (hi);(try clear hb);(try clear cG);(try clear hk);(try clear hi);have dN:0≤(0:Int):=(by omega)
       have dJ:(0:Int)<((aD.length:Int):Int):=oD' qA;have fD:(0<aD.length)=True:=eq_true (by omega);obtain⟨bD,fB,cM,cI,cZ,eU,cL⟩:=Kd.R_form HO_7.out (by omega);(first|cases cM|(injection cM with ea_ en_ ec_;(first|subst ea_|(injection ea_ with ea_;subst ea_));subst ec_;clear en_));have dP:=A' cI;have eS:=A' cL;clear cI cZ cL;(first|simp only[add_plain]at aN|skip);(first|simp only[add_plain]at aM|skip);obtain⟨eT,cO,cK,bK,bO⟩:=Kd.R_elem HO_7.out z51 (0:Int) dN dJ;obtain rfl:=k51_openM cK;have bP:World.cell? _ ⟨bD,(0:Int).toNat*2,none⟩=some (.int .i64 ((rd_T51 aD 0).f0)):=bK 0 _ rfl;have bL:World.cell? _ ⟨bD,(0:Int).toNat*2+1,none⟩=some (.int .i64 ((rd_T51 aD 0).f1)):=bK 1 _ rfl;have bM:World.frozen? _ ⟨bD,(0:Int).toNat*2,none⟩=false:=bO 0;have bJ:World.frozen? _ ⟨bD,(0:Int).toNat*2+1,none⟩=false:=bO 1;clear cO bK bO cK;(try rw[show((0:Int)).toNat=0 from rfl]at bP);(try simp only[Nat.reduceMul,Nat.zero_mul,Nat.zero_add,Nat.reduceAdd]at bP);(try rw[show((0:Int)).toNat=0 from rfl]at bM);(try simp only[Nat.reduceMul,Nat.zero_mul,Nat.zero_add,Nat.reduceAdd]at bM);(try rw[show((0:Int)).toNat=0 from rfl]at bL);(try simp only[Nat.reduceMul,Nat.zero_mul,Nat.zero_add,Nat.reduceAdd]at bL);(try rw[show((0:Int)).toNat=0 from rfl]at bJ);(try simp only[Nat.reduceMul,Nat.zero_mul,Nat.zero_add,Nat.reduceAdd]at bJ);replace dN:=eq_true dN;replace dJ:=eq_true dJ;have HN591_go22:=A' (show aT≠bD from by have h_:=IsS100.own_ne aA.out HO_7.out (by decide);intro e_;exact h_ (by rw[e_];rfl));obtain⟨fS,cR,eI,cS,eB⟩:=Kd.R_elem HO_7.out z51 (0:Int) (by omega) (by have h_:(0:Int)<((aD.length:Int):Int):=oD' qA;first|exact h_|(have e_:=(Kd.R_reads' HO_7.out).1;omega)|simpa using h_);obtain rfl:=k51_openM eI;have dO:=(Kd.R_seg HO_7.out (0:Int) (by omega) (by have h_:(0:Int)<((aD.length:Int):Int):=oD' qA;first|exact h_|(have e_:=(Kd.R_reads' HO_7.out).1;omega)|simpa using h_) (seg:=[.int .i64 (wrap64 (((rd_T51 aD 0).f1)+bG))]) (j:=1) cR cS (show 2≤2 from by decide) (x':=(⟨(rd_T51 aD 0).f0,wrap64 (((rd_T51 aD 0).f1)+bG)⟩:S51)) (k51_mkM _ _ _ (⟨(rd_T51 aD 0).f0,wrap64 (((rd_T51 aD 0).f1)+bG)⟩:S51)) (fun _ hk=>hk)).1;rw[← cU.out]at dO;have fA:=A' dO;clear cR cS eB eI dO;refine hK.out _ _ ⟨HS0_,HS1_⟩ (fun hHeld=>?_);clear hK K;refine norm_ (a':=?_) ?_ ?_;rotate_left
       ·show Act.put _ (some 30) _=_
        exact qP
       refine pure_ (i:=6) (N:=some 31) (v:=?_) (a':=?_) #[y',y',y',y',y',y',y',n',n',n'] rfl rfl (any_of HT_.out (by kernel_rfl)) (fun _ _ _ h=>h) (Or.inl ⟨by rfl,?_⟩) ?_ ?_;rotate_left
       ·exact qI
       rotate_left
       ·exact qP
       refine pure_ (i:=7) (N:=some 32) (v:=?_) (a':=?_) #[y',y',y',y',y',y',y',y',n',n'] rfl rfl (any_of HT_.out (by kernel_rfl)) (fun _ _ _ h=>h) (Or.inl ⟨by rfl,?_⟩) ?_ ?_;rotate_left
       ·exact qI
       rotate_left
       ·exact qP
       refine pure_ (i:=8) (N:=some 33) (v:=?_) (a':=?_) #[y',y',y',y',y',y',y',y',y',n'] rfl rfl (any_of HT_.out (by kernel_rfl)) (fun _ _ _ h=>h) (Or.inl ⟨by rfl,?_⟩) ?_ ?_;rotate_left
       ·exact qI
       rotate_left
       ·exact qP
       refine last_ (i:=9) (N:=none) #[y',y',y',y',y',y',y',y',y',y'] rfl rfl (one_of HT_.out (by kernel_rfl)) (by decide) (fun K hK=>?_);refine skip_ (w1:=?_) (by rfl) rfl ?_ ?_;rotate_left
       ·go_simp
        rfl
       refine hK.out _ _ ?_;clear hK K;refine done_ (done_of HT_.out (by kernel_rfl)) ?_;try go_wp2_with (first|((with_reducible refine gate_callee (f:=52) rfl ?_);refine goesL_ (some 35) rfl rfl Tryz.func52 (by kernel_rfl) rfl #[.pointer (some ⟨aT,0,none⟩),.int .i64 5] rfl (by(try simp only[List.map_toArray,List.map_cons,List.map_nil]);first|done|rfl|(simp only[List.length_drop,List.length_take];rfl)) ?_;(with_reducible refine(spec_l00Src_one.calls aT aJ bR bQ 5 false dD dK w _ ?aY ?aX fL.out).mono ?_);(case aY=>repeat(first|(with_reducible first|exact aA.out|apply IsS100.alloc|apply IsS100.drewN|apply IsS100.drew|apply IsS100.set_1|apply IsS100.set_2|refine IsS100.far ?_ HN591_go22.out _|refine IsS100.far ?_ aC.out _)|exact aA.out));(case aX=>repeat(first|(with_reducible first|exact HB.out|apply K'|apply F'|apply J'|refine E' ?_ dP.out|refine E' ?_ (IsS100.ge aA.out)|refine E' ?_ aQ.out)|exact HB.out));rintro e gJ ⟨rfl,hi,hb,hk⟩;refine⟨_,rfl,?_⟩;have n0_:=A' (Q' (Kd.R_keep (IsS100.apart (show IsS100 w _ aT aJ bR bQ from by repeat(first|(with_reducible first|exact aA.out|apply IsS100.alloc|apply IsS100.drewN|apply IsS100.drew|apply IsS100.set_1|apply IsS100.set_2|refine IsS100.far ?_ HN591_go22.out _|refine IsS100.far ?_ aC.out _)|exact aA.out)) (by(with_reducible repeat(first|apply B'|apply C'|apply D'));exact(Q' (M' (p:=⟨bD,1,none⟩) (Q' HO_5.out (fun k_ hk=>(⟨hk,fun e_=>hk (by rw[e_];rfl)⟩:_∧k_≠bD))) (fun _ hk=>hk.2) (.int .i64 (wrap64 (((rd_T51 aD 0).f1)+bG)))) (fun _ h_=>h_.1))) (by decide)) hk (fun _ h=>h.2)) (fun _ h=>h.1));have n1_:=A' (Q' (Kd.R_keep (IsS100.apart (show IsS100 w _ aT aJ bR bQ from by repeat(first|(with_reducible first|exact aA.out|apply IsS100.alloc|apply IsS100.drewN|apply IsS100.drew|apply IsS100.set_1|apply IsS100.set_2|refine IsS100.far ?_ HN591_go22.out _|refine IsS100.far ?_ aC.out _)|exact aA.out)) (qR fA.out) (by decide)) hk (fun _ h=>h.2)) (fun _ h=>h.1));have n2_:=A' (KeepBut.blk hk (g':=aK) (o:=.cells #[.int .i64 bA,.int .i64 bC,.bool bE] 25 (0,0)) (by(with_reducible repeat(first|refine G' ?_ _|refine I' ?_|refine hA' ?_ _));refine bF' ?_ (by have h_:=Kd.R_ne HO_7.out aE.out (by decide);intro e_;exact h_ (by rw[e_];rfl)) _;(with_reducible repeat(first|refine G' ?_ _|refine I' ?_|refine hA' ?_ _));exact aE.out) aW.out (by simp));have n3_:=A' (hb);have n4_:=A' (hi);clear HO_5;clear HO_7;clear aE;clear HB;clear aA;have HO_5:=n0_;have HO_7:=n1_;have aE:=n2_;have HB:=n3_;have aA:=n4_;clear n0_ n1_ n2_ n3_ n4_;(try clear hb);(try clear cG);(try clear hk);(try clear hi)))
       go_ret2;exact⟨_,_,qE,qR HO_5.out,qR HO_7.out,qZ8_0 HB.out (IsS100.ge aA.out) aQ.out⟩
     ·rw[if_neg c20]at H;exact absurd H (by simp)
    ·replace eN:=Bool.eq_false_iff.mpr eN;subst eN;have H1:((spec_l00Src_one.f aJ aG aH 5).bind fun dR=>(if dR.1=true then(if aD.length<8796093022208 then(some (aI,(aD ++ [(⟨0,0⟩:S51)])))else(none))else(some (aI,aD))))=some (r1,r2):=by rw[if_neg (show¬(false=true) by decide)]at H;exact H
     clear H;have H:=H1;clear H1;replace H:=Option.bind_eq_some_iff.mp H;obtain⟨⟨eH,cV,dL⟩,eD,H⟩:=H;replace H:(if eH=true then(if aD.length<8796093022208 then(some (aI,(aD ++ [(⟨0,0⟩:S51)])))else(none))else(some (aI,aD)))=some (r1,r2):=H;have fF:=A' eD;clear eD
     by_cases eO:eH=true
     ·subst eO;have H1:(if aD.length<8796093022208 then(some (aI,(aD ++ [(⟨0,0⟩:S51)])))else(none))=some (r1,r2):=by rw[if_pos rfl]at H;exact H
      clear H;have H:=H1;clear H1
      by_cases c39:aD.length<8796093022208
      ·rw[if_pos c39]at H;have eG:=A' c39;clear c39;obtain⟨eV,bX⟩: ∃y_:List (S51),y_=(aD ++ [(⟨0,0⟩:S51)]):=⟨_,rfl⟩
       replace H:(some (aI,eV))=some (r1,r2):=by first|(rw[bX];with_reducible exact H)|(have H2_:=(Option.bind_some _ _).symm.trans H;rw[bX];with_reducible exact H2_)|(have H2_:=(Option.bind_some _ _).symm.trans H;with_reducible exact H2_)|with_reducible exact H|(rw[bX];exact H)|exact H
       have dS:=A' bX;clear bX;simp only[Option.some.injEq,Prod.mk.injEq]at H;obtain⟨rfl,rfl⟩:=H;go_wp2_with (first|((with_reducible refine gate_callee (f:=52) rfl ?_);refine goesL_ (some 35) rfl rfl Tryz.func52 (by kernel_rfl) rfl #[.pointer (some ⟨aT,0,none⟩),.int .i64 5] rfl (by(try simp only[List.map_toArray,List.map_cons,List.map_nil]);first|done|rfl|(simp only[List.length_drop,List.length_take];rfl)) ?_;(with_reducible refine(spec_l00Src_one.calls aT aJ aG aH 5 true cV dL w _ ?aY ?aX fF.out).mono ?_);(case aY=>repeat(first|(with_reducible first|exact aA.out|apply IsS100.alloc|apply IsS100.drewN|apply IsS100.drew|apply IsS100.set_1|apply IsS100.set_2|refine IsS100.far ?_ aC.out _)|exact aA.out));(case aX=>repeat(first|(with_reducible first|exact HB.out|apply K'|apply F'|apply J'|refine E' ?_ (IsS100.ge aA.out)|refine E' ?_ aQ.out)|exact HB.out));rintro e gH ⟨rfl,hi,hb,hk⟩;refine⟨_,rfl,?_⟩;replace HO_5:=A' (Q' (Kd.R_keep (IsS100.apart (show IsS100 w _ aT aJ aG aH from by repeat(first|(with_reducible first|exact aA.out|apply IsS100.alloc|apply IsS100.drewN|apply IsS100.drew|apply IsS100.set_1|apply IsS100.set_2|refine IsS100.far ?_ aC.out _)|exact aA.out)) (qR HO_5.out) (by decide)) hk (fun _ h=>h.2)) (fun _ h=>h.1));replace HO_7:=A' (Q' (Kd.R_keep (IsS100.apart (show IsS100 w _ aT aJ aG aH from by repeat(first|(with_reducible first|exact aA.out|apply IsS100.alloc|apply IsS100.drewN|apply IsS100.drew|apply IsS100.set_1|apply IsS100.set_2|refine IsS100.far ?_ aC.out _)|exact aA.out)) (qR HO_7.out) (by decide)) hk (fun _ h=>h.2)) (fun _ h=>h.1));replace aE:=A' (KeepBut.blk hk (g':=aK) (o:=.cells #[.int .i64 bA,.int .i64 bC,.bool bE] 25 (0,0)) (qB aE.out) aW.out (by simp));replace HB:=A' (hb);replace aA:=A' (hi);(try clear hb);(try clear cG);(try clear hk);(try clear hi))|((with_reducible refine gate_builtin (b:=.append) (xs:=#[.tmp 36,.tmp 38]) rfl ?_);at_builtin;refine Kd.R_append k51 (w0:=w) w.heap.size rfl (.tmp 36) (.tmp 38) 26 51 (.agg #[(.int .i64 0),(.int .i64 0)]) 16 rfl Tryz.underlying26 info51 rfl (by decide) (by omega) cW aD (⟨0,0⟩:S51) [.int .i64 0,.int .i64 0] (fun k_=>some k_≠(.slice cN aI.length cJ:Value).ownBlock) (fun _=>False) rfl rfl ?aP (fun _ hk=>hk.elim) ?aF ?aO ?aB ?aS ?aL ?_;(case aP=>exact k51_mkM _ _ _ (⟨0,0⟩:S51));(case aB=>exact(qZ8_0 HB.out (IsS100.ge aA.out) aQ.out));(case aF=>exact(fun k_ hk=>Kd.fresh' (Kd.R_lt (qR HO_5.out)) k_ hk));(case aO=>exact(qR HO_7.out));(case aS=>exact(V' (qZ8_0 HB.out (IsS100.ge aA.out) aQ.out)));(case aL=>have:=eG.out;omega);intro fY gT ho hb hg hat;rw[← dS.out]at ho;have n0_:=A' (Kd.R_after (ok:=(fun _=>True)) (by(with_reducible repeat(first|apply B'|apply C'|apply D'));exact Q' HO_5.out (fun _ hk=>⟨trivial,hk⟩)) hg hat);have n1_:=A' (blk_grown (g:=aK) (o:=.cells #[.int .i64 bA,.int .i64 bC,.bool bE] 25 (0,0)) (qB aE.out) hg (Kd.R_ne HO_7.out aE.out (by decide)));have n2_:=A' (IsS100.grown (show IsS100 w _ aT aJ cV dL from by repeat(first|(with_reducible first|exact aA.out|apply IsS100.alloc|apply IsS100.drewN|apply IsS100.drew|apply IsS100.set_1|apply IsS100.set_2|refine IsS100.far ?_ aC.out _)|exact aA.out)) hg (IsS100.own_ne aA.out HO_7.out (by decide)));have n3_:=A' (hb);have n4_:=A' (ho);clear HO_5;clear aE;clear aA;clear HB;clear HO_7;have HO_5:=n0_;have aE:=n1_;have aA:=n2_;have HB:=n3_;have eJ:=n4_;clear n0_ n1_ n2_ n3_ n4_;clear ho hb hg hat));go_ret2;exact⟨_,_,qE,by(with_reducible repeat(first|apply B'|apply C'|apply D'));exact Q' HO_5.out (fun _ hk=>hk.2),qR eJ.out,qZ8_0 HB.out (IsS100.ge aA.out) aQ.out⟩
      ·rw[if_neg c39]at H;exact absurd H (by simp)
     ·replace eO:=Bool.eq_false_iff.mpr eO;subst eO;have H1:(some (aI,aD))=some (r1,r2):=by rw[if_neg (show¬(false=true) by decide)]at H;exact H
      clear H;have H:=H1;clear H1;simp only[Option.some.injEq,Prod.mk.injEq]at H;obtain⟨rfl,rfl⟩:=H;go_wp2_with (first|((with_reducible refine gate_callee (f:=52) rfl ?_);refine goesL_ (some 35) rfl rfl Tryz.func52 (by kernel_rfl) rfl #[.pointer (some ⟨aT,0,none⟩),.int .i64 5] rfl (by(try simp only[List.map_toArray,List.map_cons,List.map_nil]);first|done|rfl|(simp only[List.length_drop,List.length_take];rfl)) ?_;(with_reducible refine(spec_l00Src_one.calls aT aJ aG aH 5 false cV dL w _ ?aY ?aX fF.out).mono ?_);(case aY=>repeat(first|(with_reducible first|exact aA.out|apply IsS100.alloc|apply IsS100.drewN|apply IsS100.drew|apply IsS100.set_1|apply IsS100.set_2|refine IsS100.far ?_ aC.out _)|exact aA.out));(case aX=>repeat(first|(with_reducible first|exact HB.out|apply K'|apply F'|apply J'|refine E' ?_ (IsS100.ge aA.out)|refine E' ?_ aQ.out)|exact HB.out));rintro e gQ ⟨rfl,hi,hb,hk⟩;refine⟨_,rfl,?_⟩;replace HO_5:=A' (Q' (Kd.R_keep (IsS100.apart (show IsS100 w _ aT aJ aG aH from by repeat(first|(with_reducible first|exact aA.out|apply IsS100.alloc|apply IsS100.drewN|apply IsS100.drew|apply IsS100.set_1|apply IsS100.set_2|refine IsS100.far ?_ aC.out _)|exact aA.out)) (qR HO_5.out) (by decide)) hk (fun _ h=>h.2)) (fun _ h=>h.1));replace HO_7:=A' (Q' (Kd.R_keep (IsS100.apart (show IsS100 w _ aT aJ aG aH from by repeat(first|(with_reducible first|exact aA.out|apply IsS100.alloc|apply IsS100.drewN|apply IsS100.drew|apply IsS100.set_1|apply IsS100.set_2|refine IsS100.far ?_ aC.out _)|exact aA.out)) (qR HO_7.out) (by decide)) hk (fun _ h=>h.2)) (fun _ h=>h.1));replace aE:=A' (KeepBut.blk hk (g':=aK) (o:=.cells #[.int .i64 bA,.int .i64 bC,.bool bE] 25 (0,0)) (qB aE.out) aW.out (by simp));replace HB:=A' (hb);replace aA:=A' (hi);(try clear hb);(try clear cG);(try clear hk);(try clear hi)));go_ret2;exact⟨_,_,qE,qR HO_5.out,qR HO_7.out,qZ8_0 HB.out (IsS100.ge aA.out) aQ.out⟩
 ·rw[if_neg c4]at H;exact absurd H (by simp)
/-! ### spec_SameWay: function 21 -/
def spec_SameWay.l0:Nat→List (S51)→List (S51)→Int→Option (Bool)
 |0,_,_,_=>none
 |k+1,x0,x1,x5=>if x5<(x0.length:Int)then(if 0≤x5 then(if x5<(x1.length:Int)then(if(!(((rd_T51 x0 x5).f0) == ((rd_T51 x1 x5).f0)) || (!(((rd_T51 x0 x5).f1) == ((rd_T51 x1 x5).f1))))=true then(some false)else(spec_SameWay.l0 k x0 x1 (wrap64 (x5+1))))else(none))else(none))else(some true)
def spec_SameWay.f (k:Nat) (l0:List (S51)) (l1:List (S51)):Option (Bool):=if(l0.length:Int)=(l1.length:Int)then(spec_SameWay.l0 k l0 l1 0)else(some false)
theorem spec_SameWay.mono_l: ∀k,(∀y0 y1 y2,LeO (spec_SameWay.l0 k y0 y1 y2) (spec_SameWay.l0 (k+1) y0 y1 y2))
 |0=>fun _ _ _ r h=>by simp[spec_SameWay.l0]at h
 |k+1=>by
  have aA:=spec_SameWay.mono_l k
  ·intro y0 y1 y2
   unfold spec_SameWay.l0
   repeat' first
   |(with_reducible exact aA _ _ _)
   |(with_reducible exact LeO.refl _)
   |(with_reducible exact LeO.none _)
   |(with_reducible refine LeO.ite ?_ ?_)
   |(with_reducible refine LeO.bind ?_ (fun _=>?_))
   |exact LeO.none _
   |refine LeO.ite ?_ ?_
   |refine LeO.bind ?_ (fun _=>?_)
theorem spec_SameWay.mono: ∀a0 a1 k,LeO (spec_SameWay.f k a0 a1) (spec_SameWay.f (k+1) a0 a1):=by
 intro a0 a1 k
 have aA:=spec_SameWay.mono_l k
 unfold spec_SameWay.f
 repeat' first
   |(with_reducible exact aA _ _ _)
   |(with_reducible exact LeO.refl _)
   |(with_reducible exact LeO.none _)
   |(with_reducible refine LeO.ite ?_ ?_)
   |(with_reducible refine LeO.bind ?_ (fun _=>?_))
   |exact LeO.none _
   |refine LeO.ite ?_ ?_
   |refine LeO.bind ?_ (fun _=>?_)
set_option maxHeartbeats 8000000 in
set_option maxRecDepth 100000 in
theorem spec_SameWay.calls (k:Nat) (A0:Option Addr) (c0:Nat) (l0:List (S51)) (A1:Option Addr) (c1:Nat) (l1:List (S51)) (r:Bool) (w:World) (aO:Kd.C k51 w A0 l0.length l0) (aT:l0.length≤c0) (aN:Kd.C k51 w A1 l1.length l1) (aP:l1.length≤c1) (h:spec_SameWay.f k l0 l1=some r):
  Calls Tryz.prog 21 #[.slice A0 l0.length c0,.slice A1 l1.length c1] w fun e w'=>e= .returned (.bool r)∧Drawn0 w w':=by
 have aU:=Tryz.underlying51;have aS:=A' aO;have aW:=A' aT;clear aO aT;have aR:=A' aN;have aV:=A' aP;clear aN aP;have H:(if(l0.length:Int)=(l1.length:Int)then(spec_SameWay.l0 k l0 l1 0)else(some false))=some r:=h;clear h
 by_cases c3:(l0.length:Int)=(l1.length:Int)
 ·rw[if_pos c3]at H;have c3b0:((l0.length:Int) == (l1.length:Int))=true:=beq_iff_eq.mpr c3;have c3b1:((l0.length:Int) != (l1.length:Int))=false:=bne_eq_false_iff_eq.mpr c3;have c3b2:(l0.length == l1.length)=true:=by first|simpa using c3|(simp at c3 ⊢;omega)
  clear c3;have H':=A' H;clear H;go_enter Tryz.func21,Tryz.ntmps21;go_wp2
  repeat(go_quiet (fail);try go_wp2)
  go_loopg [5] k (fun kq v5 w'=>∃(aA:Int),v5= .int .i64 aA∧Aside0 (spec_SameWay.l0 kq l0 l1 aA=some r)∧Aside0 (kq≤k)∧Drawn0 w w')
  case atStart=>exact⟨(0),qS,H',⟨Nat.le_refl _⟩,by repeat(first|exact Drawn0.refl _|apply Drawn0.step)⟩
  case round=>
   clear H';try clear c1
   try clear c2
   try clear p2
   try clear c3
   try clear c3b0
   try clear c3b1
   try clear c3b2
   obtain⟨aA,rfl,HA,aQ,⟨m1,rfl⟩⟩:=hrel
   cases gk with
   |zero=>exact absurd HA.out (by simp[spec_SameWay.l0])
   |succ k1=>
    have H:=HA.out;clear HA;simp only[spec_SameWay.l0]at H
    by_cases c4:aA<(l0.length:Int)
    ·rw[if_pos c4]at H;have c4b0:decide (aA<(l0.length:Int))=true:=dT' c4;clear c4
     by_cases c5:0≤aA
     ·rw[if_pos c5]at H;have c5b0:decide (0≤aA)=true:=dT' c5;clear c5
      by_cases c6:aA<(l1.length:Int)
      ·rw[if_pos c6]at H;have c6b0:decide (aA<(l1.length:Int))=true:=dT' c6;clear c6
       by_cases c7:(!(((rd_T51 l0 aA).f0) == ((rd_T51 l1 aA).f0)) || (!(((rd_T51 l0 aA).f1) == ((rd_T51 l1 aA).f1))))=true
       ·rw[if_pos c7]at H;have c7b0:(!(((rd_T51 l0 aA).f0) == ((rd_T51 l1 aA).f0)) || (!(((rd_T51 l0 aA).f1) == ((rd_T51 l1 aA).f1))))=true:=c7;clear c7;obtain rfl:=Option.some.inj H;have aE:0≤(aA:Int):=oD' qA;have aD:aA<(l0.length:Int):=oD' qA;obtain⟨aM,aK,aF,aI⟩:=at_T51 aS.out aA aE aD
        cases aK
        replace aE:=eq_true aE;replace aD:=eq_true aD;have aB:0≤(aA:Int):=oD' qA;have aC:aA<(l1.length:Int):=oD' qA;obtain⟨aL,aJ,aG,aH⟩:=at_T51 aR.out aA aB aC
        cases aJ
        replace aB:=eq_true aB;replace aC:=eq_true aC;go_wp2
        repeat(go_quiet (fail);try go_wp2)
        go_ret;exact⟨by first|rfl|(simp;done)|(simp[*];done),by repeat(first|exact Drawn0.refl _|apply Drawn0.step)⟩
       ·rw[if_neg c7]at H;have c7b0:(!(((rd_T51 l0 aA).f0) == ((rd_T51 l1 aA).f0)) || (!(((rd_T51 l0 aA).f1) == ((rd_T51 l1 aA).f1))))=false:=by simpa using c7
        clear c7;have H':=A' H;clear H;have aE:0≤(aA:Int):=oD' qA;have aD:aA<(l0.length:Int):=oD' qA;obtain⟨aM,aK,aF,aI⟩:=at_T51 aS.out aA aE aD
        cases aK
        replace aE:=eq_true aE;replace aD:=eq_true aD;have aB:0≤(aA:Int):=oD' qA;have aC:aA<(l1.length:Int):=oD' qA;obtain⟨aL,aJ,aG,aH⟩:=at_T51 aR.out aA aB aC
        cases aJ
        replace aB:=eq_true aB;replace aC:=eq_true aC;go_wp2
        repeat(go_quiet (fail);try go_wp2)
        go_roundg k1
        case measure=>have:=aQ.out;omega
        case rel=>exact⟨(wrap64 (aA+1)),qS,H',⟨by have:=aQ.out;omega⟩,by repeat(first|exact Drawn0.refl _|apply Drawn0.step)⟩
      ·rw[if_neg c6]at H;exact absurd H (by simp)
     ·rw[if_neg c5]at H;exact absurd H (by simp)
    ·rw[if_neg c4]at H;have c4b0:decide (aA<(l0.length:Int))=false:=dF' c4;clear c4;obtain rfl:=Option.some.inj H;go_wp2
     repeat(go_quiet (fail);try go_wp2)
     go_ret;exact⟨by first|rfl|(simp;done)|(simp[*];done),by repeat(first|exact Drawn0.refl _|apply Drawn0.step)⟩
 ·rw[if_neg c3]at H;have c3b0:((l0.length:Int) == (l1.length:Int))=false:=beq_eq_false_iff_ne.mpr c3;have c3b1:((l0.length:Int) != (l1.length:Int))=true:=bne_iff_ne.mpr c3;have c3b2:(l0.length == l1.length)=false:=by first|simpa using c3|(simp at c3 ⊢;omega)
  obtain rfl:=Option.some.inj H;go_enter Tryz.func21,Tryz.ntmps21;go_wp2
  repeat(go_quiet (fail);try go_wp2)
  go_ret;exact⟨by first|rfl|(simp;done)|(simp[*];done),by repeat(first|exact Drawn0.refl _|apply Drawn0.step)⟩
/-! ### laws_f6ints: function 53 -/
def laws_f6ints.l0:Nat→List Int→List Int→Int→Option (Bool)
 |0,_,_,_=>none
 |k+1,x0,x1,x5=>if x5<(x0.length:Int)then(if 0≤x5 then(if x5<(x1.length:Int)then(if(rd x0 x5)=(rd x1 x5)then(laws_f6ints.l0 k x0 x1 (wrap64 (x5+1)))else(some false))else(none))else(none))else(some true)
def laws_f6ints.f (k:Nat) (l0:List Int) (l1:List Int):Option (Bool):=if(l0.length:Int)=(l1.length:Int)then(laws_f6ints.l0 k l0 l1 0)else(some false)
theorem laws_f6ints.mono_l: ∀k,(∀y0 y1 y2,LeO (laws_f6ints.l0 k y0 y1 y2) (laws_f6ints.l0 (k+1) y0 y1 y2))
 |0=>fun _ _ _ r h=>by simp[laws_f6ints.l0]at h
 |k+1=>by
  have aA:=laws_f6ints.mono_l k
  ·intro y0 y1 y2
   unfold laws_f6ints.l0
   repeat' first
   |(with_reducible exact aA _ _ _)
   |(with_reducible exact LeO.refl _)
   |(with_reducible exact LeO.none _)
   |(with_reducible refine LeO.ite ?_ ?_)
   |(with_reducible refine LeO.bind ?_ (fun _=>?_))
   |exact LeO.none _
   |refine LeO.ite ?_ ?_
   |refine LeO.bind ?_ (fun _=>?_)
theorem laws_f6ints.mono: ∀a0 a1 k,LeO (laws_f6ints.f k a0 a1) (laws_f6ints.f (k+1) a0 a1):=by
 intro a0 a1 k
 have aA:=laws_f6ints.mono_l k
 unfold laws_f6ints.f
 repeat' first
   |(with_reducible exact aA _ _ _)
   |(with_reducible exact LeO.refl _)
   |(with_reducible exact LeO.none _)
   |(with_reducible refine LeO.ite ?_ ?_)
   |(with_reducible refine LeO.bind ?_ (fun _=>?_))
   |exact LeO.none _
   |refine LeO.ite ?_ ?_
   |refine LeO.bind ?_ (fun _=>?_)
set_option maxHeartbeats 8000000 in
set_option maxRecDepth 100000 in
theorem laws_f6ints.calls (k:Nat) (A0:Option Addr) (c0:Nat) (l0:List Int) (A1:Option Addr) (c1:Nat) (l1:List Int) (r:Bool) (w:World) (aM:Kd.C (Kd.int .i64) w A0 l0.length l0) (aR:l0.length≤c0) (aL:Kd.C (Kd.int .i64) w A1 l1.length l1) (aN:l1.length≤c1) (h:laws_f6ints.f k l0 l1=some r):
  Calls Tryz.prog 53 #[.slice A0 l0.length c0,.slice A1 l1.length c1] w fun e w'=>e= .returned (.bool r)∧Drawn0 w w':=by
 have aQ:=A' aM;have aT:=A' aR;clear aM aR;have aP:=A' aL;have aS:=A' aN;clear aL aN;have H:(if(l0.length:Int)=(l1.length:Int)then(laws_f6ints.l0 k l0 l1 0)else(some false))=some r:=h;clear h
 by_cases c3:(l0.length:Int)=(l1.length:Int)
 ·rw[if_pos c3]at H;have c3b0:((l0.length:Int) == (l1.length:Int))=true:=beq_iff_eq.mpr c3;have c3b1:((l0.length:Int) != (l1.length:Int))=false:=bne_eq_false_iff_eq.mpr c3;have c3b2:(l0.length == l1.length)=true:=by first|simpa using c3|(simp at c3 ⊢;omega)
  clear c3;have H':=A' H;clear H;go_enter Tryz.func53,Tryz.ntmps53;go_wp2
  repeat(go_quiet (fail);try go_wp2)
  go_loopg [5] k (fun kq v5 w'=>∃(aA:Int),v5= .int .i64 aA∧Aside0 (laws_f6ints.l0 kq l0 l1 aA=some r)∧Aside0 (kq≤k)∧Drawn0 w w')
  case atStart=>exact⟨(0),qS,H',⟨Nat.le_refl _⟩,by repeat(first|exact Drawn0.refl _|apply Drawn0.step)⟩
  case round=>as_aux_lemma=>
   clear H';try clear c1
   try clear p2
   try clear c3
   try clear c3b0
   try clear c3b1
   try clear c3b2
   obtain⟨aA,rfl,HA,aO,⟨m1,rfl⟩⟩:=hrel
   cases gk with
   |zero=>exact absurd HA.out (by simp[laws_f6ints.l0])
   |succ k1=>
    have H:=HA.out;clear HA;simp only[laws_f6ints.l0]at H
    by_cases c4:aA<(l0.length:Int)
    ·rw[if_pos c4]at H;have c4b0:decide (aA<(l0.length:Int))=true:=dT' c4;clear c4
     by_cases c5:0≤aA
     ·rw[if_pos c5]at H;have c5b0:decide (0≤aA)=true:=dT' c5;clear c5
      by_cases c6:aA<(l1.length:Int)
      ·rw[if_pos c6]at H;have c6b0:decide (aA<(l1.length:Int))=true:=dT' c6;clear c6
       by_cases c7:(rd l0 aA)=(rd l1 aA)
       ·rw[if_pos c7]at H;have c7b0:((rd l0 aA) == (rd l1 aA))=true:=beq_iff_eq.mpr c7;have c7b1:((rd l0 aA) != (rd l1 aA))=false:=bne_eq_false_iff_eq.mpr c7;clear c7;have H':=A' H;clear H;have aC:0≤(aA:Int):=oD' qA;have aD:aA<(l0.length:Int):=oD' qA;obtain⟨aJ,aI,aG⟩:=Kd.at_int aQ.out aA aC aD
        cases aI
        replace aC:=eq_true aC;replace aD:=eq_true aD;have aE:0≤(aA:Int):=oD' qA;have aB:aA<(l1.length:Int):=oD' qA;obtain⟨aK,aH,aF⟩:=Kd.at_int aP.out aA aE aB
        cases aH
        replace aE:=eq_true aE;replace aB:=eq_true aB;go_wp2
        repeat(go_quiet (fail);try go_wp2)
        go_roundg k1
        case measure=>have:=aO.out;omega
        case rel=>exact⟨(wrap64 (aA+1)),qS,H',⟨by have:=aO.out;omega⟩,by repeat(first|exact Drawn0.refl _|apply Drawn0.step)⟩
       ·rw[if_neg c7]at H;have c7b0:((rd l0 aA) == (rd l1 aA))=false:=beq_eq_false_iff_ne.mpr c7;have c7b1:((rd l0 aA) != (rd l1 aA))=true:=bne_iff_ne.mpr c7;obtain rfl:=Option.some.inj H;have aC:0≤(aA:Int):=oD' qA;have aD:aA<(l0.length:Int):=oD' qA;obtain⟨aJ,aI,aG⟩:=Kd.at_int aQ.out aA aC aD
        cases aI
        replace aC:=eq_true aC;replace aD:=eq_true aD;have aE:0≤(aA:Int):=oD' qA;have aB:aA<(l1.length:Int):=oD' qA;obtain⟨aK,aH,aF⟩:=Kd.at_int aP.out aA aE aB
        cases aH
        replace aE:=eq_true aE;replace aB:=eq_true aB;go_wp2
        repeat(go_quiet (fail);try go_wp2)
        go_ret;exact⟨by first|rfl|(simp;done)|(simp[*];done),by repeat(first|exact Drawn0.refl _|apply Drawn0.step)⟩
      ·rw[if_neg c6]at H;exact absurd H (by simp)
     ·rw[if_neg c5]at H;exact absurd H (by simp)
    ·rw[if_neg c4]at H;have c4b0:decide (aA<(l0.length:Int))=false:=dF' c4;clear c4;obtain rfl:=Option.some.inj H;go_wp2
     repeat(go_quiet (fail);try go_wp2)
     go_ret;exact⟨by first|rfl|(simp;done)|(simp[*];done),by repeat(first|exact Drawn0.refl _|apply Drawn0.step)⟩
 ·rw[if_neg c3]at H;have c3b0:((l0.length:Int) == (l1.length:Int))=false:=beq_eq_false_iff_ne.mpr c3;have c3b1:((l0.length:Int) != (l1.length:Int))=true:=bne_iff_ne.mpr c3;have c3b2:(l0.length == l1.length)=false:=by first|simpa using c3|(simp at c3 ⊢;omega)
  obtain rfl:=Option.some.inj H;go_enter Tryz.func53,Tryz.ntmps53;go_wp2
  repeat(go_quiet (fail);try go_wp2)
  go_ret;exact⟨by first|rfl|(simp;done)|(simp[*];done),by repeat(first|exact Drawn0.refl _|apply Drawn0.step)⟩
/-! ### laws_f6lists: function 22 -/
def laws_f6lists.l0:Nat→List (List Int)→List (List Int)→Int→Option (Bool)
 |0,_,_,_=>none
 |k+1,x0,x1,x5=>if x5<(x0.length:Int)then(if 0≤x5 then(if x5<(x1.length:Int)then((laws_f6ints.f k (rd_L5 x0 x5) (rd_L5 x1 x5)).bind fun aA=>(if aA=true then(laws_f6lists.l0 k x0 x1 (wrap64 (x5+1)))else(some false)))else(none))else(none))else(some true)
def laws_f6lists.f (k:Nat) (l0:List (List Int)) (l1:List (List Int)):Option (Bool):=if(l0.length:Int)=(l1.length:Int)then(laws_f6lists.l0 k l0 l1 0)else(some false)
theorem laws_f6lists.mono_l: ∀k,(∀y0 y1 y2,LeO (laws_f6lists.l0 k y0 y1 y2) (laws_f6lists.l0 (k+1) y0 y1 y2))
 |0=>fun _ _ _ r h=>by simp[laws_f6lists.l0]at h
 |k+1=>by
  have aA:=laws_f6lists.mono_l k
  ·intro y0 y1 y2
   unfold laws_f6lists.l0
   repeat' first
   |(with_reducible exact aA _ _ _)
   |(with_reducible exact laws_f6ints.mono _ _ _)
   |(with_reducible exact LeO.refl _)
   |(with_reducible exact LeO.none _)
   |(with_reducible refine LeO.ite ?_ ?_)
   |(with_reducible refine LeO.bind ?_ (fun _=>?_))
   |exact LeO.none _
   |refine LeO.ite ?_ ?_
   |refine LeO.bind ?_ (fun _=>?_)
theorem laws_f6lists.mono: ∀a0 a1 k,LeO (laws_f6lists.f k a0 a1) (laws_f6lists.f (k+1) a0 a1):=by
 intro a0 a1 k
 have aA:=laws_f6lists.mono_l k
 unfold laws_f6lists.f
 repeat' first
   |(with_reducible exact aA _ _ _)
   |(with_reducible exact laws_f6ints.mono _ _ _)
   |(with_reducible exact LeO.refl _)
   |(with_reducible exact LeO.none _)
   |(with_reducible refine LeO.ite ?_ ?_)
   |(with_reducible refine LeO.bind ?_ (fun _=>?_))
   |exact LeO.none _
   |refine LeO.ite ?_ ?_
   |refine LeO.bind ?_ (fun _=>?_)
set_option maxHeartbeats 8000000 in
set_option maxRecDepth 100000 in
theorem laws_f6lists.calls (k:Nat) (A0:Option Addr) (c0:Nat) (l0:List (List Int)) (A1:Option Addr) (c1:Nat) (l1:List (List Int)) (r:Bool) (w:World) (bF:Kd.C (Kd.slice 2 (Kd.int .i64)) w A0 l0.length l0) (bE:l0.length≤c0) (bC:Kd.C (Kd.slice 2 (Kd.int .i64)) w A1 l1.length l1) (bG:l1.length≤c1) (h:laws_f6lists.f k l0 l1=some r):
  Calls Tryz.prog 22 #[.slice A0 l0.length c0,.slice A1 l1.length c1] w fun e w'=>e= .returned (.bool r)∧Drawn0 w w':=by
 have bJ:=A' bF;have bK:=A' bE;clear bF bE;have bI:=A' bC;have bL:=A' bG;clear bC bG;have H:(if(l0.length:Int)=(l1.length:Int)then(laws_f6lists.l0 k l0 l1 0)else(some false))=some r:=h;clear h
 by_cases c3:(l0.length:Int)=(l1.length:Int)
 ·rw[if_pos c3]at H;have c3b0:((l0.length:Int) == (l1.length:Int))=true:=beq_iff_eq.mpr c3;have c3b1:((l0.length:Int) != (l1.length:Int))=false:=bne_eq_false_iff_eq.mpr c3;have c3b2:(l0.length == l1.length)=true:=by first|simpa using c3|(simp at c3 ⊢;omega)
  clear c3;have H':=A' H;clear H;go_enter Tryz.func22,Tryz.ntmps22;go_wp2
  repeat(go_quiet (fail);try go_wp2)
  go_loopg [5] k (fun kq v5 w'=>∃(aA:Int),v5= .int .i64 aA∧Aside0 (laws_f6lists.l0 kq l0 l1 aA=some r)∧Aside0 (kq≤k)∧Drawn0 w w')
  case atStart=>exact⟨(0),qS,H',⟨Nat.le_refl _⟩,by repeat(first|exact Drawn0.refl _|apply Drawn0.step)⟩
  case round=>as_aux_lemma=>
   clear H';try clear c1
   try clear c2
   try clear p2
   try clear c3
   try clear c3b0
   try clear c3b1
   try clear c3b2
   obtain⟨aA,rfl,HA,bH,⟨m1,rfl⟩⟩:=hrel
   cases gk with
   |zero=>exact absurd HA.out (by simp[laws_f6lists.l0])
   |succ k1=>
    have H:=HA.out;clear HA;simp only[laws_f6lists.l0]at H
    by_cases c4:aA<(l0.length:Int)
    ·rw[if_pos c4]at H;have c4b0:decide (aA<(l0.length:Int))=true:=dT' c4;clear c4
     by_cases c5:0≤aA
     ·rw[if_pos c5]at H;have c5b0:decide (0≤aA)=true:=dT' c5;clear c5
      by_cases c6:aA<(l1.length:Int)
      ·rw[if_pos c6]at H;have c6b0:decide (aA<(l1.length:Int))=true:=dT' c6;clear c6;replace H:=Option.bind_eq_some_iff.mp H;obtain⟨bB,bD,H⟩:=H;replace H:(if bB=true then(laws_f6lists.l0 k1 l0 l1 (wrap64 (aA+1)))else(some false))=some r:=H;have A7:=A' bD;clear bD
       by_cases c8:bB=true
       ·subst c8;have H1:(laws_f6lists.l0 k1 l0 l1 (wrap64 (aA+1)))=some r:=by rw[if_pos rfl]at H;exact H
        clear H;have H:=H1;clear H1;have H':=A' H;clear H;have aP:0≤(aA:Int):=oD' qA;have aO:aA<(l0.length:Int):=oD' qA;obtain⟨bA,aW,aX,aV,aS,aJ,aM⟩:=at_L5 bJ.out aA aP aO
        cases aV
        have aD:=A' aM;have aC:=A' aJ;clear aM aJ;replace aP:=eq_true aP;replace aO:=eq_true aO;have aQ:0≤(aA:Int):=oD' qA;have aN:aA<(l1.length:Int):=oD' qA;obtain⟨aZ,aT,aU,aY,aR,aK,aL⟩:=at_L5 bI.out aA aQ aN
        cases aY
        have aB:=A' aL;have aE:=A' aK;clear aL aK;replace aQ:=eq_true aQ;replace aN:=eq_true aN;go_wp2_with (first|(go_at_call 53;(with_reducible refine(laws_f6ints.calls k1 _ _ (rd_L5 l0 aA) _ _ (rd_L5 l1 aA) true _ ?aI ?aH ?aF ?aG A7.out).mono ?_);(case aI=>exact qT aD.out);(case aH=>exact aC.out);(case aF=>exact qT aB.out);(case aG=>exact aE.out);rintro e w' ⟨rfl,⟨nd,rfl⟩⟩;(try first|exact⟨rfl,_,World.drewN_drewN _ _ _⟩|exact⟨rfl,_,Eq.trans (World.drewN_drewN _ _ _) (congrArg (World.drewN _) (Nat.add_assoc _ _ _))⟩)))
        repeat(go_quiet (first|(go_at_call 53;(with_reducible refine(laws_f6ints.calls k1 _ _ (rd_L5 l0 aA) _ _ (rd_L5 l1 aA) true _ ?aI ?aH ?aF ?aG A7.out).mono ?_);(case aI=>exact qT aD.out);(case aH=>exact aC.out);(case aF=>exact qT aB.out);(case aG=>exact aE.out);rintro e w' ⟨rfl,⟨nd,rfl⟩⟩;(try first|exact⟨rfl,_,World.drewN_drewN _ _ _⟩|exact⟨rfl,_,Eq.trans (World.drewN_drewN _ _ _) (congrArg (World.drewN _) (Nat.add_assoc _ _ _))⟩)));try go_wp2_with (first|(go_at_call 53;(with_reducible refine(laws_f6ints.calls k1 _ _ (rd_L5 l0 aA) _ _ (rd_L5 l1 aA) true _ ?aI ?aH ?aF ?aG A7.out).mono ?_);(case aI=>exact qT aD.out);(case aH=>exact aC.out);(case aF=>exact qT aB.out);(case aG=>exact aE.out);rintro e w' ⟨rfl,⟨nd,rfl⟩⟩;(try first|exact⟨rfl,_,World.drewN_drewN _ _ _⟩|exact⟨rfl,_,Eq.trans (World.drewN_drewN _ _ _) (congrArg (World.drewN _) (Nat.add_assoc _ _ _))⟩))))
        go_roundg k1
        case measure=>have:=bH.out;omega
        case rel=>exact⟨(wrap64 (aA+1)),qS,H',⟨by have:=bH.out;omega⟩,by repeat(first|exact Drawn0.refl _|apply Drawn0.step)⟩
       ·replace c8:=Bool.eq_false_iff.mpr c8;subst c8;have H1:(some false)=some r:=by rw[if_neg (show¬(false=true) by decide)]at H;exact H
        clear H;have H:=H1;clear H1;obtain rfl:=Option.some.inj H;have aP:0≤(aA:Int):=oD' qA;have aO:aA<(l0.length:Int):=oD' qA;obtain⟨bA,aW,aX,aV,aS,aJ,aM⟩:=at_L5 bJ.out aA aP aO
        cases aV
        have aD:=A' aM;have aC:=A' aJ;clear aM aJ;replace aP:=eq_true aP;replace aO:=eq_true aO;have aQ:0≤(aA:Int):=oD' qA;have aN:aA<(l1.length:Int):=oD' qA;obtain⟨aZ,aT,aU,aY,aR,aK,aL⟩:=at_L5 bI.out aA aQ aN
        cases aY
        have aB:=A' aL;have aE:=A' aK;clear aL aK;replace aQ:=eq_true aQ;replace aN:=eq_true aN;go_wp2_with (first|(go_at_call 53;(with_reducible refine(laws_f6ints.calls k1 _ _ (rd_L5 l0 aA) _ _ (rd_L5 l1 aA) false _ ?aI ?aH ?aF ?aG A7.out).mono ?_);(case aI=>exact qT aD.out);(case aH=>exact aC.out);(case aF=>exact qT aB.out);(case aG=>exact aE.out);rintro e w' ⟨rfl,⟨nd,rfl⟩⟩;(try first|exact⟨rfl,_,World.drewN_drewN _ _ _⟩|exact⟨rfl,_,Eq.trans (World.drewN_drewN _ _ _) (congrArg (World.drewN _) (Nat.add_assoc _ _ _))⟩)))
        repeat(go_quiet (first|(go_at_call 53;(with_reducible refine(laws_f6ints.calls k1 _ _ (rd_L5 l0 aA) _ _ (rd_L5 l1 aA) false _ ?aI ?aH ?aF ?aG A7.out).mono ?_);(case aI=>exact qT aD.out);(case aH=>exact aC.out);(case aF=>exact qT aB.out);(case aG=>exact aE.out);rintro e w' ⟨rfl,⟨nd,rfl⟩⟩;(try first|exact⟨rfl,_,World.drewN_drewN _ _ _⟩|exact⟨rfl,_,Eq.trans (World.drewN_drewN _ _ _) (congrArg (World.drewN _) (Nat.add_assoc _ _ _))⟩)));try go_wp2_with (first|(go_at_call 53;(with_reducible refine(laws_f6ints.calls k1 _ _ (rd_L5 l0 aA) _ _ (rd_L5 l1 aA) false _ ?aI ?aH ?aF ?aG A7.out).mono ?_);(case aI=>exact qT aD.out);(case aH=>exact aC.out);(case aF=>exact qT aB.out);(case aG=>exact aE.out);rintro e w' ⟨rfl,⟨nd,rfl⟩⟩;(try first|exact⟨rfl,_,World.drewN_drewN _ _ _⟩|exact⟨rfl,_,Eq.trans (World.drewN_drewN _ _ _) (congrArg (World.drewN _) (Nat.add_assoc _ _ _))⟩))))
        go_ret;exact⟨by first|rfl|(simp;done)|(simp[*];done),by repeat(first|exact Drawn0.refl _|apply Drawn0.step)⟩
      ·rw[if_neg c6]at H;exact absurd H (by simp)
     ·rw[if_neg c5]at H;exact absurd H (by simp)
    ·rw[if_neg c4]at H;have c4b0:decide (aA<(l0.length:Int))=false:=dF' c4;clear c4;obtain rfl:=Option.some.inj H;go_wp2
     repeat(go_quiet (fail);try go_wp2)
     go_ret;exact⟨by first|rfl|(simp;done)|(simp[*];done),by repeat(first|exact Drawn0.refl _|apply Drawn0.step)⟩
 ·rw[if_neg c3]at H;have c3b0:((l0.length:Int) == (l1.length:Int))=false:=beq_eq_false_iff_ne.mpr c3;have c3b1:((l0.length:Int) != (l1.length:Int))=true:=bne_iff_ne.mpr c3;have c3b2:(l0.length == l1.length)=false:=by first|simpa using c3|(simp at c3 ⊢;omega)
  obtain rfl:=Option.some.inj H;go_enter Tryz.func22,Tryz.ntmps22;go_wp2
  repeat(go_quiet (fail);try go_wp2)
  go_ret;exact⟨by first|rfl|(simp;done)|(simp[*];done),by repeat(first|exact Drawn0.refl _|apply Drawn0.step)⟩
/-! ### spec_WayText: function 23 -/
def spec_WayText.f (k:Nat) (aB:Int) (aC:Int) (aE:Bool) (l1:List (S51)):Option (ByteArray):=(spec_l07Code.f k aB aC aE l1).bind fun aA=>(if aA.1=0 then((spec_l07Text.f k l1).bind fun aD=>(some aD))else(some (⟨#[]⟩:ByteArray)))
theorem spec_WayText.mono: ∀a0 a1 a2 a3 k,LeO (spec_WayText.f k a0 a1 a2 a3) (spec_WayText.f (k+1) a0 a1 a2 a3):=by
 intro a0 a1 a2 a3 k
 unfold spec_WayText.f
 repeat' first
   |(with_reducible exact spec_l07Code.mono _ _ _ _ _)
   |(with_reducible exact spec_l07Text.mono _ _)
   |(with_reducible exact LeO.refl _)
   |(with_reducible exact LeO.none _)
   |(with_reducible refine LeO.ite ?_ ?_)
   |(with_reducible refine LeO.bind ?_ (fun _=>?_))
   |exact LeO.none _
   |refine LeO.ite ?_ ?_
   |refine LeO.bind ?_ (fun _=>?_)
theorem qZ8_2 {p q r0:Prop} (h:q) (g0:r0) (f:q→r0→p:=by intro h_ g0_;repeat(first|(with_reducible first|exact h_|apply K'|apply F'|apply J'|refine E' ?_ g0_)|exact h_)):p:=f h g0
theorem qZ8_3 {p q:Prop} (h:q) (f:q→p:=by intro h_;repeat(first|(with_reducible first|exact h_|apply IsS25.alloc|apply IsS25.drewN|apply IsS25.drew|apply IsS25.set_0|apply IsS25.set_1|apply IsS25.set_2)|exact h_)):p:=f h
set_option maxHeartbeats 8000000 in
set_option maxRecDepth 100000 in
theorem spec_WayText.calls (k:Nat) (aC:Int) (aD:Int) (aE:Bool) (A1:Option Addr) (c1:Nat) (l1:List (S51)) (r:ByteArray) (w:World) (aU:Kd.C k51 w A1 l1.length l1) (aW:l1.length≤c1) (h:spec_WayText.f k aC aD aE l1=some r):
  Calls Tryz.prog 23 #[.agg #[.int .i64 aC,.int .i64 aD,.bool aE],.slice A1 l1.length c1] w fun e w'=>e= .returned (.string r)∧Below w.heap.size w w':=by
 have aY:=Tryz.underlying25;have aT:=A' aU;have aS:=A' aW;clear aU aW;have HB:=A' (Below.refl w.heap.size w);have H:((spec_l07Code.f k aC aD aE l1).bind fun aO=>(if aO.1=0 then((spec_l07Text.f k l1).bind fun aI=>(some aI))else(some (⟨#[]⟩:ByteArray))))=some r:=h;clear h;replace H:=Option.bind_eq_some_iff.mp H;obtain⟨⟨aH,aR,aN,aQ⟩,aX,H⟩:=H;replace H:(if aH=0 then((spec_l07Text.f k l1).bind fun aI=>(some aI))else(some (⟨#[]⟩:ByteArray)))=some r:=H;have A3:=A' aX;clear aX
 by_cases c4:aH=0
 ·rw[if_pos c4]at H;have c4b0:(aH == 0)=true:=beq_iff_eq.mpr c4;have c4b1:(aH != 0)=false:=bne_eq_false_iff_eq.mpr c4;clear c4;replace H:=Option.bind_eq_some_iff.mp H;obtain⟨aI,aV,H⟩:=H;replace H:(some aI)=some r:=H;have A5:=A' aV;clear aV;obtain rfl:=Option.some.inj H;go_enter Tryz.func23,Tryz.ntmps23;go_wp2_with (first|((with_reducible refine gate_dst (N:=2) rfl ?_);refine box_event ?hg (N:=2) ?hd (cs:=#[.int .i64 aC,.int .i64 aD,.bool aE]) (t:=25) ?hr ?_;(case hd=>rfl);(case hg=>rfl);(case hr=>first|(go_simp;done)|(go_simp;rfl));intro aB hg w6 hbox hb;have n0_:=A' (W' (qK0 HB.out) hb);have n1_:=A' (hbox);have n2_:=A' ((by rw[hg];exact(V' (qK0 HB.out)):w.heap.size≤aB));have n3_:=A' ((by rw[hg];exact(V' (qK0 HB.out)):w.heap.size≤aB));clear HB;have HB:=n0_;have aM:=n1_;have aP:=n2_;have aK:=n3_;clear n0_ n1_ n2_ n3_;clear hb hbox hg;have aA:=A' (show IsS25 w w6 aB aC aD aE from⟨(qB aM.out),aK.out⟩))|((with_reducible refine gate_callee (f:=29) rfl ?_);refine goesL_ (some 6) rfl rfl Tryz.func29 (by kernel_rfl) rfl #[.pointer (some ⟨aB,0,none⟩),.slice A1 l1.length c1] rfl (by(try simp only[List.map_toArray,List.map_cons,List.map_nil]);first|done|rfl|(simp only[List.length_drop,List.length_take];rfl)) ?_;(with_reducible refine(spec_l07Code.calls k aB aC aD aE _ _ l1 aH aR aN aQ w _ ?aG ?aF ?aJ ?aL A3.out).mono ?_);(case aG=>repeat(first|(with_reducible first|exact aA.out|apply IsS25.alloc|apply IsS25.drewN|apply IsS25.drew|apply IsS25.set_0|apply IsS25.set_1|apply IsS25.set_2)|exact aA.out));(case aF=>repeat(first|(with_reducible first|exact HB.out|apply K'|apply F'|apply J'|refine E' ?_ (IsS25.ge aA.out))|exact HB.out));(case aJ=>exact Kd.C_foot_came k51_heap aT.out (qZ8_2 HB.out (IsS25.ge aA.out)) (IsS25.ge aA.out));(case aL=>exact aS.out);rintro e w7 ⟨rfl,hi,hb,hk⟩;refine⟨_,rfl,?_⟩;replace HB:=A' (hb);replace aA:=A' (hi);(try clear hb);(try clear hb2);(try clear hk);(try clear hi))|((with_reducible refine gate_callee (f:=46) rfl ?_);refine goesL_ (some 9) rfl rfl Tryz.func46 (by kernel_rfl) rfl #[.slice A1 l1.length c1] rfl (by(try simp only[List.map_toArray,List.map_cons,List.map_nil]);first|done|rfl|(simp only[List.length_drop,List.length_take];rfl)) ?_;(with_reducible refine(spec_l07Text.calls k _ _ l1 aI _ ?aG ?aF A5.out).mono ?_);(case aG=>exact qT (X' aT.out HB.out));(case aF=>exact aS.out);rintro e w8 ⟨rfl,hb⟩;refine⟨_,rfl,?_⟩;have n0_:=A' (IsS25.below (qZ8_3 aA.out) hb);have n1_:=A' (W' (qZ8_2 HB.out (IsS25.ge aA.out)) hb);clear aA;clear HB;have aA:=n0_;have HB:=n1_;clear n0_ n1_;(try clear hb);(try clear hb2);(try clear hk);(try clear hi)));go_ret;exact⟨qE,qZ8_2 HB.out (IsS25.ge aA.out)⟩
 ·rw[if_neg c4]at H;have c4b0:(aH == 0)=false:=beq_eq_false_iff_ne.mpr c4;have c4b1:(aH != 0)=true:=bne_iff_ne.mpr c4;obtain rfl:=Option.some.inj H;go_enter Tryz.func23,Tryz.ntmps23;go_wp2_with (first|((with_reducible refine gate_dst (N:=2) rfl ?_);refine box_event ?hg (N:=2) ?hd (cs:=#[.int .i64 aC,.int .i64 aD,.bool aE]) (t:=25) ?hr ?_;(case hd=>rfl);(case hg=>rfl);(case hr=>first|(go_simp;done)|(go_simp;rfl));intro aB hg w9 hbox hb;have n0_:=A' (W' (qK0 HB.out) hb);have n1_:=A' (hbox);have n2_:=A' ((by rw[hg];exact(V' (qK0 HB.out)):w.heap.size≤aB));have n3_:=A' ((by rw[hg];exact(V' (qK0 HB.out)):w.heap.size≤aB));clear HB;have HB:=n0_;have aM:=n1_;have aP:=n2_;have aK:=n3_;clear n0_ n1_ n2_ n3_;clear hb hbox hg;have aA:=A' (show IsS25 w w9 aB aC aD aE from⟨(qB aM.out),aK.out⟩))|((with_reducible refine gate_callee (f:=29) rfl ?_);refine goesL_ (some 6) rfl rfl Tryz.func29 (by kernel_rfl) rfl #[.pointer (some ⟨aB,0,none⟩),.slice A1 l1.length c1] rfl (by(try simp only[List.map_toArray,List.map_cons,List.map_nil]);first|done|rfl|(simp only[List.length_drop,List.length_take];rfl)) ?_;(with_reducible refine(spec_l07Code.calls k aB aC aD aE _ _ l1 aH aR aN aQ w _ ?aG ?aF ?aJ ?aL A3.out).mono ?_);(case aG=>repeat(first|(with_reducible first|exact aA.out|apply IsS25.alloc|apply IsS25.drewN|apply IsS25.drew|apply IsS25.set_0|apply IsS25.set_1|apply IsS25.set_2)|exact aA.out));(case aF=>repeat(first|(with_reducible first|exact HB.out|apply K'|apply F'|apply J'|refine E' ?_ (IsS25.ge aA.out))|exact HB.out));(case aJ=>exact Kd.C_foot_came k51_heap aT.out (qZ8_2 HB.out (IsS25.ge aA.out)) (IsS25.ge aA.out));(case aL=>exact aS.out);rintro e aZ ⟨rfl,hi,hb,hk⟩;refine⟨_,rfl,?_⟩;replace HB:=A' (hb);replace aA:=A' (hi);(try clear hb);(try clear hb2);(try clear hk);(try clear hi)));go_ret;exact⟨qE,qZ8_2 HB.out (IsS25.ge aA.out)⟩
end Go.Proofs.YtifdihbndlmgpaaGreatDoor.HWys
