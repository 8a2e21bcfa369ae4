-- Written by a program for this claim (the functions that the statement reaches, and that the program's code comes to them).
import Derived.Test.YtifdihbndlmgpaaGreatDoorHWysx0
import Derived.Test.YtifdihbndlmgpaaGreatDoorHWysx1
import Derived.Test.YtifdihbndlmgpaaGreatDoorHWysx4
import Derived.Test.YtifdihbndlmgpaaGreatDoorHWysx6
namespace Go.Proofs.YtifdihbndlmgpaaGreatDoor.HWys
open Go.RowKit Go.Proofs.YtifdihbndlmgpaaGreatDoorW.PrintWords Go.Proofs.YtifdihbndlmgpaaGreatDoorW.PrintLast Go.Proofs.YtifdihbndlmgpaaGreatDoorW.PrintMore
attribute [local go_sem] max2_int min2_int max_two min_two max_three min_three max_four min_four
set_option linter.unusedVariables false
set_option linter.unusedSimpArgs false
attribute [local go_sem high] eqA51
/-! ### impl_Stop_54: function 54 -/
def impl_Stop_54.l0:Nat→List (S51)→List (S51)→Int→Int→Option (Bool)
 |0,_,_,_,_=>none
 |k+1,x0,x1,aB,aA=>if aA<aB then(if 0≤aA then(if aA<(x0.length:Int)then(if aA<(x1.length:Int)then(if(!(((rd_T51 x0 aA).f0) == ((rd_T51 x1 aA).f0)) || (!(((rd_T51 x0 aA).f1) == ((rd_T51 x1 aA).f1))))=true then(some false)else(impl_Stop_54.l0 k x0 x1 aB (wrap64 (aA+1))))else(none))else(none))else(none))else(some true)
def impl_Stop_54.f (k:Nat) (l0:List (S51)) (l1:List (S51)):Option (Bool):=if(l0.length:Int)=(l1.length:Int)then(impl_Stop_54.l0 k l0 l1 (l0.length:Int) 0)else(some false)
theorem impl_Stop_54.mono_l: ∀k,(∀y0 y1 y2 y3,LeO (impl_Stop_54.l0 k y0 y1 y2 y3) (impl_Stop_54.l0 (k+1) y0 y1 y2 y3))
 |0=>fun _ _ _ _ r h=>by simp[impl_Stop_54.l0]at h
 |k+1=>by
  have aA:=impl_Stop_54.mono_l k
  ·intro y0 y1 y2 y3
   unfold impl_Stop_54.l0
   repeat' first
   |(with_reducible exact aA _ _ _ _)
   |(with_reducible exact LeO.refl _)
   |(with_reducible exact LeO.none _)
   |(with_reducible refine LeO.ite ?_ ?_)
   |(with_reducible refine LeO.bind ?_ (fun _=>?_))
   |exact LeO.none _
   |refine LeO.ite ?_ ?_
   |refine LeO.bind ?_ (fun _=>?_)
theorem impl_Stop_54.mono: ∀a0 a1 k,LeO (impl_Stop_54.f k a0 a1) (impl_Stop_54.f (k+1) a0 a1):=by
 intro a0 a1 k
 have aA:=impl_Stop_54.mono_l k
 unfold impl_Stop_54.f
 repeat' first
   |(with_reducible exact aA _ _ _ _)
   |(with_reducible exact LeO.refl _)
   |(with_reducible exact LeO.none _)
   |(with_reducible refine LeO.ite ?_ ?_)
   |(with_reducible refine LeO.bind ?_ (fun _=>?_))
   |exact LeO.none _
   |refine LeO.ite ?_ ?_
   |refine LeO.bind ?_ (fun _=>?_)
set_option maxHeartbeats 8000000 in
set_option maxRecDepth 100000 in
theorem impl_Stop_54.calls (k:Nat) (A0:Option Addr) (c0:Nat) (l0:List (S51)) (A1:Option Addr) (c1:Nat) (l1:List (S51)) (r:Bool) (w:World) (aO:Kd.C k51 w A0 l0.length l0) (aR:l0.length≤c0) (aN:Kd.C k51 w A1 l1.length l1) (aP:l1.length≤c1) (h:impl_Stop_54.f k l0 l1=some r):
  Calls Tryz.prog 54 #[.slice A0 l0.length c0,.slice A1 l1.length c1] w fun e w'=>e= .returned (.bool r)∧Drawn0 w w':=by
 have aU:=Tryz.underlying51;have aT:=A' aO;have aX:=A' aR;clear aO aR;have aS:=A' aN;have aW:=A' aP;clear aN aP;have H:(if(l0.length:Int)=(l1.length:Int)then(impl_Stop_54.l0 k l0 l1 (l0.length:Int) 0)else(some false))=some r:=h;clear h
 by_cases c3:(l0.length:Int)=(l1.length:Int)
 ·rw[if_pos c3]at H;have c3b0:((l0.length:Int) == (l1.length:Int))=true:=beq_iff_eq.mpr c3;have c3b1:((l0.length:Int) != (l1.length:Int))=false:=bne_eq_false_iff_eq.mpr c3;have c3b2:(l0.length == l1.length)=true:=by first|simpa using c3|(simp at c3 ⊢;omega)
  clear c3;have H':=A' H;clear H;go_enter Tryz.func54,Tryz.ntmps54;go_wp2
  repeat(go_quiet (fail);try go_wp2)
  go_loopg [13] k (fun kq aV w'=>∃(aA:Int),aV= .int .i64 aA∧Aside0 (impl_Stop_54.l0 kq l0 l1 (l0.length:Int) aA=some r)∧Aside0 (kq≤k)∧Drawn0 w w')
  case atStart=>exact⟨(0),qS,H',⟨Nat.le_refl _⟩,by repeat(first|exact Drawn0.refl _|apply Drawn0.step)⟩
  case round=>
   clear H';try clear c1
   try clear p2
   try clear c3
   try clear c3b0
   try clear c3b1
   try clear c3b2
   obtain⟨aA,rfl,HA,aQ,⟨m1,rfl⟩⟩:=hrel
   cases gk with
   |zero=>exact absurd HA.out (by simp[impl_Stop_54.l0])
   |succ k1=>
    have H:=HA.out;clear HA;simp only[impl_Stop_54.l0]at H
    by_cases c4:aA<(l0.length:Int)
    ·rw[if_pos c4]at H;have c4b0:decide (aA<(l0.length:Int))=true:=dT' c4;clear c4
     by_cases c5:0≤aA
     ·rw[if_pos c5]at H;have c5b0:decide (0≤aA)=true:=dT' c5;clear c5
      by_cases c6:aA<(l0.length:Int)
      ·rw[if_pos c6]at H;have c6b0:decide (aA<(l0.length:Int))=true:=dT' c6;clear c6
       by_cases c7:aA<(l1.length:Int)
       ·rw[if_pos c7]at H;have c7b0:decide (aA<(l1.length:Int))=true:=dT' c7;clear c7
        by_cases c8:(!(((rd_T51 l0 aA).f0) == ((rd_T51 l1 aA).f0)) || (!(((rd_T51 l0 aA).f1) == ((rd_T51 l1 aA).f1))))=true
        ·rw[if_pos c8]at H;have c8b0:(!(((rd_T51 l0 aA).f0) == ((rd_T51 l1 aA).f0)) || (!(((rd_T51 l0 aA).f1) == ((rd_T51 l1 aA).f1))))=true:=c8;clear c8;obtain rfl:=Option.some.inj H;have aC:0≤(aA:Int):=oD' qA;have aE:aA<(l0.length:Int):=oD' qA;obtain⟨aM,aJ,aI,aG⟩:=at_T51 aT.out aA aC aE
         cases aJ
         replace aC:=eq_true aC;replace aE:=eq_true aE;have aD:0≤(aA:Int):=oD' qA;have aB:aA<(l1.length:Int):=oD' qA;obtain⟨aL,aK,aF,aH⟩:=at_T51 aS.out aA aD aB
         cases aK
         replace aD:=eq_true aD;replace aB:=eq_true aB;go_wp2
         repeat(go_quiet (fail);try go_wp2)
         go_ret;exact⟨by first|rfl|(simp;done)|(simp[*];done),by repeat(first|exact Drawn0.refl _|apply Drawn0.step)⟩
        ·rw[if_neg c8]at H;have c8b0:(!(((rd_T51 l0 aA).f0) == ((rd_T51 l1 aA).f0)) || (!(((rd_T51 l0 aA).f1) == ((rd_T51 l1 aA).f1))))=false:=by simpa using c8
         clear c8;have H':=A' H;clear H;have aC:0≤(aA:Int):=oD' qA;have aE:aA<(l0.length:Int):=oD' qA;obtain⟨aM,aJ,aI,aG⟩:=at_T51 aT.out aA aC aE
         cases aJ
         replace aC:=eq_true aC;replace aE:=eq_true aE;have aD:0≤(aA:Int):=oD' qA;have aB:aA<(l1.length:Int):=oD' qA;obtain⟨aL,aK,aF,aH⟩:=at_T51 aS.out aA aD aB
         cases aK
         replace aD:=eq_true aD;replace aB:=eq_true aB;go_wp2
         repeat(go_quiet (fail);try go_wp2)
         go_roundg k1
         case measure=>have:=aQ.out;omega
         case rel=>exact⟨(wrap64 (aA+1)),qS,H',⟨by have:=aQ.out;omega⟩,by repeat(first|exact Drawn0.refl _|apply Drawn0.step)⟩
       ·rw[if_neg c7]at H;exact absurd H (by simp)
      ·rw[if_neg c6]at H;exact absurd H (by simp)
     ·rw[if_neg c5]at H;exact absurd H (by simp)
    ·rw[if_neg c4]at H;have c4b0:decide (aA<(l0.length:Int))=false:=dF' c4;clear c4;obtain rfl:=Option.some.inj H;go_wp2
     repeat(go_quiet (fail);try go_wp2)
     go_ret;exact⟨by first|rfl|(simp;done)|(simp[*];done),by repeat(first|exact Drawn0.refl _|apply Drawn0.step)⟩
 ·rw[if_neg c3]at H;have c3b0:((l0.length:Int) == (l1.length:Int))=false:=beq_eq_false_iff_ne.mpr c3;have c3b1:((l0.length:Int) != (l1.length:Int))=true:=bne_iff_ne.mpr c3;have c3b2:(l0.length == l1.length)=false:=by first|simpa using c3|(simp at c3 ⊢;omega)
  obtain rfl:=Option.some.inj H;go_enter Tryz.func54,Tryz.ntmps54;go_wp2
  repeat(go_quiet (fail);try go_wp2)
  go_ret;exact⟨by first|rfl|(simp;done)|(simp[*];done),by repeat(first|exact Drawn0.refl _|apply Drawn0.step)⟩
/-! ### impl_SameWay: function 24 -/
def impl_SameWay.f (k:Nat) (l0:List (S51)) (l1:List (S51)):Option (Bool):=(impl_Stop_54.f k l0 l1).bind fun aA=>(some aA)
theorem impl_SameWay.mono: ∀a0 a1 k,LeO (impl_SameWay.f k a0 a1) (impl_SameWay.f (k+1) a0 a1):=by
 intro a0 a1 k
 unfold impl_SameWay.f
 repeat' first
   |(with_reducible exact impl_Stop_54.mono _ _ _)
   |(with_reducible exact LeO.refl _)
   |(with_reducible exact LeO.none _)
   |(with_reducible refine LeO.ite ?_ ?_)
   |(with_reducible refine LeO.bind ?_ (fun _=>?_))
   |exact LeO.none _
   |refine LeO.ite ?_ ?_
   |refine LeO.bind ?_ (fun _=>?_)
set_option maxHeartbeats 8000000 in
set_option maxRecDepth 100000 in
theorem impl_SameWay.calls (k:Nat) (A0:Option Addr) (c0:Nat) (l0:List (S51)) (A1:Option Addr) (c1:Nat) (l1:List (S51)) (r:Bool) (w:World) (aI:Kd.C k51 w A0 l0.length l0) (aJ:l0.length≤c0) (aF:Kd.C k51 w A1 l1.length l1) (aG:l1.length≤c1) (h:impl_SameWay.f k l0 l1=some r):
  Calls Tryz.prog 24 #[.slice A0 l0.length c0,.slice A1 l1.length c1] w fun e w'=>e= .returned (.bool r)∧Drawn0 w w':=by
 have aN:=A' aI;have aL:=A' aJ;clear aI aJ;have aM:=A' aF;have aK:=A' aG;clear aF aG;have H:((impl_Stop_54.f k l0 l1).bind fun aA=>(some aA))=some r:=h;clear h;replace H:=Option.bind_eq_some_iff.mp H;obtain⟨aA,aH,H⟩:=H;replace H:(some aA)=some r:=H;have A3:=A' aH;clear aH;obtain rfl:=Option.some.inj H;go_enter Tryz.func24,Tryz.ntmps24;go_wp2_with (first|((with_reducible refine gate_callee (f:=54) rfl ?_);refine goesL_ (some 7) rfl rfl Tryz.func54 (by kernel_rfl) rfl #[.slice A0 l0.length c0,.slice A1 l1.length c1] rfl (by(try simp only[List.map_toArray,List.map_cons,List.map_nil]);first|done|rfl|(simp only[List.length_drop,List.length_take];rfl)) ?_;(with_reducible refine(impl_Stop_54.calls k _ _ l0 _ _ l1 aA _ ?aE ?aC ?aB ?aD A3.out).mono ?_);(case aE=>exact qT aN.out);(case aC=>exact aL.out);(case aB=>exact qT aM.out);(case aD=>exact aK.out);rintro e w' ⟨rfl,⟨nd,rfl⟩⟩;refine⟨_,rfl,?_⟩));go_ret;exact⟨by first|rfl|(simp;done)|(simp[*];done),by repeat(first|exact Drawn0.refl _|apply Drawn0.step)⟩
/-! ### impl_crossings: function 55 -/
mutual
def impl_crossings.l0:Nat→Bool→List (S61)→List (List Int)→List (List Int)→Int→Int→Option ((List (S61)))
 |0,_,_,_,_,_,_=>none
 |k+1,x1,x5,x6,aB,aC,aA=>if aA<aC then(if 0≤aA then(if aA<(aB.length:Int)then(impl_crossings.l1 k x1 x5 x6 aA (rd_L5 aB aA) (wrap64 (aA+1)) aB aC aA)else(none))else(none))else(some x5)
def impl_crossings.l1:Nat→Bool→List (S61)→List (List Int)→Int→List Int→Int→List (List Int)→Int→Int→Option ((List (S61)))
 |0,_,_,_,_,_,_,_,_,_=>none
 |k+1,x1,x5,x6,x7,x8,x9,aA,aC,aB=>if x9<(x6.length:Int)then(if 0<(x8.length:Int)then(if 0≤x9 then(if 0<((rd_L5 x6 x9).length:Int)then(if 1<(x8.length:Int)then(if 1<((rd_L5 x6 x9).length:Int)then(if(wrap64 ((wrap64 ((rd x8 0) - (rd (rd_L5 x6 x9) 0)))*(wrap64 ((rd x8 1) - (rd (rd_L5 x6 x9) 1)))))<0 then(if x1=true then(if(wrap64 ((wrap64 ((rd x8 0) - (rd (rd_L5 x6 x9) 0)))*(wrap64 ((rd x8 1) - (rd (rd_L5 x6 x9) 1))))) > 0 then(if x5.length<8796093022208 then(impl_crossings.l1 k x1 (x5 ++ [(⟨x7,x9⟩:S61)]) x6 x7 x8 (wrap64 (x9+1)) aA aC aB)else(none))else(impl_crossings.l1 k x1 x5 x6 x7 x8 (wrap64 (x9+1)) aA aC aB))else(if x5.length<8796093022208 then(impl_crossings.l1 k x1 (x5 ++ [(⟨x7,x9⟩:S61)]) x6 x7 x8 (wrap64 (x9+1)) aA aC aB)else(none)))else(if(wrap64 ((wrap64 ((rd x8 0) - (rd (rd_L5 x6 x9) 0)))*(wrap64 ((rd x8 1) - (rd (rd_L5 x6 x9) 1))))) > 0 then(if x1=true then(if x5.length<8796093022208 then(impl_crossings.l1 k x1 (x5 ++ [(⟨x7,x9⟩:S61)]) x6 x7 x8 (wrap64 (x9+1)) aA aC aB)else(none))else(impl_crossings.l1 k x1 x5 x6 x7 x8 (wrap64 (x9+1)) aA aC aB))else(impl_crossings.l1 k x1 x5 x6 x7 x8 (wrap64 (x9+1)) aA aC aB)))else(none))else(none))else(none))else(none))else(none))else(impl_crossings.l0 k x1 x5 x6 aA aC (wrap64 (aB+1)))
end
def impl_crossings.f (k:Nat) (l0:List (S51)) (a1:Bool):Option ((List (S61))):=(impl_partsOfWay.f k l0).bind fun aA=>(impl_crossings.l0 k a1 (([]:List (S61))) aA aA (aA.length:Int) 0)
theorem impl_crossings.mono_l: ∀k,(∀y0 y1 y2 y3 y4 y5,LeO (impl_crossings.l0 k y0 y1 y2 y3 y4 y5) (impl_crossings.l0 (k+1) y0 y1 y2 y3 y4 y5))∧(∀y0 y1 y2 y3 y4 y5 y6 y7 y8,LeO (impl_crossings.l1 k y0 y1 y2 y3 y4 y5 y6 y7 y8) (impl_crossings.l1 (k+1) y0 y1 y2 y3 y4 y5 y6 y7 y8))
 |0=>⟨fun _ _ _ _ _ _ r h=>by simp[impl_crossings.l0]at h,fun _ _ _ _ _ _ _ _ _ r h=>by simp[impl_crossings.l1]at h⟩
 |k+1=>by
  obtain⟨aB,aA⟩:=impl_crossings.mono_l k
  refine⟨?_,?_⟩
  ·intro y0 y1 y2 y3 y4 y5
   unfold impl_crossings.l0
   repeat' first
   |(with_reducible exact aB _ _ _ _ _ _)
   |(with_reducible exact aA _ _ _ _ _ _ _ _ _)
   |(with_reducible exact impl_partsOfWay.mono _ _)
   |(with_reducible exact LeO.refl _)
   |(with_reducible exact LeO.none _)
   |(with_reducible refine LeO.ite ?_ ?_)
   |(with_reducible refine LeO.bind ?_ (fun _=>?_))
   |exact LeO.none _
   |refine LeO.ite ?_ ?_
   |refine LeO.bind ?_ (fun _=>?_)
  ·intro y0 y1 y2 y3 y4 y5 y6 y7 y8
   unfold impl_crossings.l1
   repeat' first
   |(with_reducible exact aB _ _ _ _ _ _)
   |(with_reducible exact aA _ _ _ _ _ _ _ _ _)
   |(with_reducible exact impl_partsOfWay.mono _ _)
   |(with_reducible exact LeO.refl _)
   |(with_reducible exact LeO.none _)
   |(with_reducible refine LeO.ite ?_ ?_)
   |(with_reducible refine LeO.bind ?_ (fun _=>?_))
   |exact LeO.none _
   |refine LeO.ite ?_ ?_
   |refine LeO.bind ?_ (fun _=>?_)
theorem impl_crossings.mono: ∀a0 a1 k,LeO (impl_crossings.f k a0 a1) (impl_crossings.f (k+1) a0 a1):=by
 intro a0 a1 k
 obtain⟨aA,aB⟩:=impl_crossings.mono_l k
 unfold impl_crossings.f
 repeat' first
   |(with_reducible exact aA _ _ _ _ _ _)
   |(with_reducible exact aB _ _ _ _ _ _ _ _ _)
   |(with_reducible exact impl_partsOfWay.mono _ _)
   |(with_reducible exact LeO.refl _)
   |(with_reducible exact LeO.none _)
   |(with_reducible refine LeO.ite ?_ ?_)
   |(with_reducible refine LeO.bind ?_ (fun _=>?_))
   |exact LeO.none _
   |refine LeO.ite ?_ ?_
   |refine LeO.bind ?_ (fun _=>?_)
set_option maxHeartbeats 8000000 in
set_option maxRecDepth 100000 in
theorem impl_crossings.calls (k:Nat) (A0:Option Addr) (c0:Nat) (l0:List (S51)) (a1:Bool) (r:List (S61)) (w:World) (fD:Kd.C k51 w A0 l0.length l0) (fA:l0.length≤c0) (h:impl_crossings.f k l0 a1=some r):
  Calls Tryz.prog 55 #[.slice A0 l0.length c0,.bool a1] w fun e w'=>∃v0_:Value,e= .returned (v0_)∧Kd.R k61 61 w' w.heap.size (fun _=>True) v0_ r∧Below w.heap.size w w':=by
 have fF:=Tryz.underlying61;have fB:=A' fD;have fC:=A' fA;clear fD fA;have HB:=A' (Below.refl w.heap.size w);have H:((impl_partsOfWay.f k l0).bind fun aA=>(impl_crossings.l0 k a1 (([]:List (S61))) aA aA (aA.length:Int) 0))=some r:=h;clear h;obtain⟨eE,cT⟩: ∃y_:List (S61),y_=(([]:List (S61))):=⟨_,rfl⟩
 replace H:((impl_partsOfWay.f k l0).bind fun aA=>(impl_crossings.l0 k a1 eE aA aA (aA.length:Int) 0))=some r:=by first|(rw[cT];with_reducible exact H)|(have H2_:=(Option.bind_some _ _).symm.trans H;rw[cT];with_reducible exact H2_)|(have H2_:=(Option.bind_some _ _).symm.trans H;with_reducible exact H2_)|with_reducible exact H|(rw[cT];exact H)|exact H
 have dF:=A' cT;clear cT;replace H:=Option.bind_eq_some_iff.mp H;obtain⟨aA,eZ,H⟩:=H;replace H:(impl_crossings.l0 k a1 eE aA aA (aA.length:Int) 0)=some r:=H;have A3:=A' eZ;clear eZ;have H':=A' H;clear H;go_enter Tryz.func55,Tryz.ntmps55;go_wp2_with (first|((with_reducible refine gate_dst (N:=11) rfl ?_);refine Kd.R_lit k61 _ 61 ?hg (N:=11) ?hd (xs:=([]:List (S61))) (inner:=[]) (ok:=fun _=>True) (okp:=fun _=>True) ?hr ?hp (fun _ hk=>hk) trivial (Below.refl _ _) (Nat.le_refl _) (by simp) ?_;(case hd=>rfl);(case hg=>rfl);(case hr=>first|(go_simp;done)|(go_simp;rfl));(case hp=>exact(Reps.none _ _));intro eS w4 dM hb hg_ hnew_;clear hg_ hnew_;(first|rw[← dF.out]at dM|(simp only[Int.reduceToNat]at dM;rw[← dF.out]at dM));have n0_:=A' (Kd.R_lower dM (V' (qK0 HB.out)));have n1_:=A' (W' (qK0 HB.out) hb);clear HB;have cF:=n0_;have HB:=n1_;clear n0_ n1_;clear hb dM)|(go_at_call 37;(with_reducible refine(impl_partsOfWay.calls k _ _ l0 aA _ ?dO ?dN A3.out).mono ?_);(case dO=>exact qT (X' fB.out HB.out));(case dN=>exact fC.out);rintro e w6 ⟨eW,rfl,eJ,hb⟩;have n0_:=A' (L' (qR cF.out) hb);have n1_:=A' (Kd.S_lower eJ (V' (qK0 HB.out)));have n2_:=A' (W' (qK0 HB.out) hb);clear cF;clear HB;have cF:=n0_;have dB:=n1_;have HB:=n2_;clear n0_ n1_ n2_;(try clear hb);(try clear hb2);(try clear hk);(try clear hi);(try clear eJ);obtain⟨eX,eI,eQ⟩:=Kd.S_slice dB.out;subst eQ))
 repeat(go_quiet (fail);try go_wp2_with (first|((with_reducible refine gate_dst (N:=11) rfl ?_);refine Kd.R_lit k61 _ 61 ?hg (N:=11) ?hd (xs:=([]:List (S61))) (inner:=[]) (ok:=fun _=>True) (okp:=fun _=>True) ?hr ?hp (fun _ hk=>hk) trivial (Below.refl _ _) (Nat.le_refl _) (by simp) ?_;(case hd=>rfl);(case hg=>rfl);(case hr=>first|(go_simp;done)|(go_simp;rfl));(case hp=>exact(Reps.none _ _));intro eS w4 dM hb hg_ hnew_;clear hg_ hnew_;(first|rw[← dF.out]at dM|(simp only[Int.reduceToNat]at dM;rw[← dF.out]at dM));have n0_:=A' (Kd.R_lower dM (V' (qK0 HB.out)));have n1_:=A' (W' (qK0 HB.out) hb);clear HB;have cF:=n0_;have HB:=n1_;clear n0_ n1_;clear hb dM)|(go_at_call 37;(with_reducible refine(impl_partsOfWay.calls k _ _ l0 aA _ ?dO ?dN A3.out).mono ?_);(case dO=>exact qT (X' fB.out HB.out));(case dN=>exact fC.out);rintro e w6 ⟨eW,rfl,eJ,hb⟩;have n0_:=A' (L' (qR cF.out) hb);have n1_:=A' (Kd.S_lower eJ (V' (qK0 HB.out)));have n2_:=A' (W' (qK0 HB.out) hb);clear cF;clear HB;have cF:=n0_;have dB:=n1_;have HB:=n2_;clear n0_ n1_ n2_;(try clear hb);(try clear hb2);(try clear hk);(try clear hi);(try clear eJ);obtain⟨eX,eI,eQ⟩:=Kd.S_slice dB.out;subst eQ)))
 go_loopg [5,16] k (fun kq v5 fG w'=>∃(dQ:List (S61)) (aC:Int),fG= .int .i64 aC∧Aside0 (impl_crossings.l0 kq a1 dQ aA aA (aA.length:Int) aC=some r)∧Aside0 (kq≤k)∧Aside0 (Kd.R k61 61 w' w.heap.size (fun _=>True) v5 dQ)∧Aside0 (Kd.S (Kd.slice 2 (Kd.int .i64)) 62 w' w.heap.size (fun _=>True) (.slice eX aA.length eI) aA)∧Aside0 (Kd.S (Kd.slice 2 (Kd.int .i64)) 62 w' w.heap.size (fun _=>True) (.slice eX aA.length eI) aA)∧Aside0 (Below w.heap.size w w'))
 case atStart=>exact⟨(eE),(0),qS,H',⟨Nat.le_refl _⟩,⟨qR cF.out⟩,⟨by(with_reducible repeat(first|apply Kd.S_alloc|apply Kd.S_drewN|apply Kd.S_drew));exact dB.out⟩,⟨by(with_reducible repeat(first|apply Kd.S_alloc|apply Kd.S_drewN|apply Kd.S_drew));exact dB.out⟩,⟨qK0 HB.out⟩⟩
 case round=>
  clear H';try clear p2
  try clear c5
  obtain⟨dQ,aC,rfl,HA,dJ,HO_5,HO_6,HO_14,HB⟩:=hrel
  cases gk with
  |zero=>exact absurd HA.out (by simp[impl_crossings.l0])
  |succ k1=>
   have H:=HA.out;clear HA;simp only[impl_crossings.l0]at H
   by_cases c8:aC<(aA.length:Int)
   ·rw[if_pos c8]at H;have c8b0:decide (aC<(aA.length:Int))=true:=dT' c8;clear c8
    by_cases c9:0≤aC
    ·rw[if_pos c9]at H;have c9b0:decide (0≤aC)=true:=dT' c9;clear c9
     by_cases c10:aC<(aA.length:Int)
     ·rw[if_pos c10]at H;have c10b0:decide (aC<(aA.length:Int))=true:=dT' c10;clear c10;have H':=A' H;clear H;have dP:0≤(aC:Int):=oD' qA;have dK:aC<(aA.length:Int):=oD' qA;obtain⟨bU,eC,eF,eT,dE,dG,dH⟩:=at_L5 (Kd.S_reads' HO_14.out).2.2 aC dP dK
      cases eT
      obtain⟨eY,eD,eB,dL⟩:=Kd.S_get HO_14.out [] aC dP (by first|exact dK|exact oD' qA|(have e_:=(Kd.S_reads' HO_14.out).1;omega));obtain⟨eL,rfl,cQ⟩:=eB;have cC:=dL 0 _ rfl;rw[Nat.add_zero,show((Kd.slice 2 (Kd.int .i64))).sz=1 from rfl,Nat.mul_one]at cC;replace cC:=Option.some.inj (cC.symm.trans dE);rw[cC]at cQ;have dR:=A' (show Kd.R (Kd.int .i64) 2 _ _ _ _ (rd_L5 aA aC)from cQ);clear cC cQ;clear dL eD;have eM:=A' dH;have eO:=A' dG;clear dH dG;replace dP:=eq_true dP;replace dK:=eq_true dK;go_wp2
      repeat(go_quiet (fail);try go_wp2)
      go_loopg [5,9] k1 (fun kq v5 v9 w'=>∃(bH:List (S61)) (aD:Int),v9= .int .i64 aD∧Aside0 (impl_crossings.l1 kq a1 bH aA aC (rd_L5 aA aC) aD aA (aA.length:Int) aC=some r)∧Aside0 (kq≤k1)∧Aside0 (Kd.R k61 61 w' w.heap.size (fun _=>True) v5 bH)∧Aside0 (Kd.S (Kd.slice 2 (Kd.int .i64)) 62 w' w.heap.size (fun _=>True) (.slice (some bU) aA.length eI) aA)∧Aside0 (Kd.S (Kd.slice 2 (Kd.int .i64)) 62 w' w.heap.size (fun _=>True) (.slice (some bU) aA.length eI) aA)∧Aside0 (Below w.heap.size w w')∧Aside0 (Kd.R (Kd.int .i64) 2 w' w.heap.size (fun _=>True) (.slice eC (rd_L5 aA aC).length eF) (rd_L5 aA aC)))
      case atStart=>exact⟨(dQ),(wrap64 (aC+1)),qS,H',⟨Nat.le_refl _⟩,⟨qR HO_5.out⟩,⟨by(with_reducible repeat(first|apply Kd.S_alloc|apply Kd.S_drewN|apply Kd.S_drew));exact HO_6.out⟩,⟨by(with_reducible repeat(first|apply Kd.S_alloc|apply Kd.S_drewN|apply Kd.S_drew));exact HO_14.out⟩,⟨qK0 HB.out⟩,⟨by(with_reducible repeat(first|apply B'|apply C'|apply D'));exact Q' dR.out (fun _ _=>trivial)⟩⟩
      case round=>
       clear H';try clear c1
       try clear p2
       try clear c5
       try clear c6
       try clear p6
       try clear q6
       try clear hx6
       try clear c8
       try clear c8b0
       try clear c9
       try clear c9b0
       try clear c10
       try clear c10b0
       try clear dE
       try clear p2
       try clear dP
       try clear dK
       obtain⟨bH,aD,rfl,HA,dI,HO_5,HO_6,HO_14,HB,HLX⟩:=hrel
       cases gk with
       |zero=>exact absurd HA.out (by simp[impl_crossings.l1])
       |succ k2=>
        have H:=HA.out;clear HA;simp only[impl_crossings.l1]at H
        by_cases c11:aD<(aA.length:Int)
        ·rw[if_pos c11]at H;have c11b0:decide (aD<(aA.length:Int))=true:=dT' c11;clear c11
         by_cases c12:0<((rd_L5 aA aC).length:Int)
         ·rw[if_pos c12]at H;have c12b0:decide (0<((rd_L5 aA aC).length:Int))=true:=dT' c12;have c12b1:decide (0<(rd_L5 aA aC).length)=true:=dT' (by omega);clear c12
          by_cases c13:0≤aD
          ·rw[if_pos c13]at H;have c13b0:decide (0≤aD)=true:=dT' c13;clear c13
           by_cases c14:0<((rd_L5 aA aD).length:Int)
           ·rw[if_pos c14]at H;have c14b0:decide (0<((rd_L5 aA aD).length:Int))=true:=dT' c14;have c14b1:decide (0<(rd_L5 aA aD).length)=true:=dT' (by omega);clear c14
            by_cases c15:1<((rd_L5 aA aC).length:Int)
            ·rw[if_pos c15]at H;have c15b0:decide (1<((rd_L5 aA aC).length:Int))=true:=dT' c15;have c15b1:decide (1<(rd_L5 aA aC).length)=true:=dT' (by omega);clear c15
             by_cases c16:1<((rd_L5 aA aD).length:Int)
             ·rw[if_pos c16]at H;have c16b0:decide (1<((rd_L5 aA aD).length:Int))=true:=dT' c16;have c16b1:decide (1<(rd_L5 aA aD).length)=true:=dT' (by omega);clear c16
              by_cases c17:(wrap64 ((wrap64 ((rd (rd_L5 aA aC) 0) - (rd (rd_L5 aA aD) 0)))*(wrap64 ((rd (rd_L5 aA aC) 1) - (rd (rd_L5 aA aD) 1)))))<0
              ·rw[if_pos c17]at H;have c17b0:decide ((wrap64 ((wrap64 ((rd (rd_L5 aA aC) 0) - (rd (rd_L5 aA aD) 0)))*(wrap64 ((rd (rd_L5 aA aC) 1) - (rd (rd_L5 aA aD) 1)))))<0)=true:=dT' c17;clear c17
               by_cases eP:a1=true
               ·subst eP;have H1:(if(wrap64 ((wrap64 ((rd (rd_L5 aA aC) 0) - (rd (rd_L5 aA aD) 0)))*(wrap64 ((rd (rd_L5 aA aC) 1) - (rd (rd_L5 aA aD) 1))))) > 0 then(if bH.length<8796093022208 then(impl_crossings.l1 k2 true (bH ++ [(⟨aC,aD⟩:S61)]) aA aC (rd_L5 aA aC) (wrap64 (aD+1)) aA (aA.length:Int) aC)else(none))else(impl_crossings.l1 k2 true bH aA aC (rd_L5 aA aC) (wrap64 (aD+1)) aA (aA.length:Int) aC))=some r:=by rw[if_pos rfl]at H;exact H
                clear H;have H:=H1;clear H1
                by_cases c19:(wrap64 ((wrap64 ((rd (rd_L5 aA aC) 0) - (rd (rd_L5 aA aD) 0)))*(wrap64 ((rd (rd_L5 aA aC) 1) - (rd (rd_L5 aA aD) 1))))) > 0
                ·rw[if_pos c19]at H;have c19b0:decide (0<(wrap64 ((wrap64 ((rd (rd_L5 aA aC) 0) - (rd (rd_L5 aA aD) 0)))*(wrap64 ((rd (rd_L5 aA aC) 1) - (rd (rd_L5 aA aD) 1))))))=true:=dT' c19;clear c19
                 by_cases c20:bH.length<8796093022208
                 ·rw[if_pos c20]at H;have dV:=A' c20;clear c20;obtain⟨eG,cZ⟩: ∃y_:List (S61),y_=(bH ++ [(⟨aC,aD⟩:S61)]):=⟨_,rfl⟩
                  replace H:(impl_crossings.l1 k2 true eG aA aC (rd_L5 aA aC) (wrap64 (aD+1)) aA (aA.length:Int) aC)=some r:=by first|(rw[cZ];with_reducible exact H)|(have H2_:=(Option.bind_some _ _).symm.trans H;rw[cZ];with_reducible exact H2_)|(have H2_:=(Option.bind_some _ _).symm.trans H;with_reducible exact H2_)|with_reducible exact H|(rw[cZ];exact H)|exact H
                  have dY:=A' cZ;clear cZ;have H':=A' H;clear H;have bI:0≤(0:Int):=(by omega)
                  have bQ:0<((rd_L5 aA aC).length:Int):=oD' qA;obtain⟨bV,cH,aI⟩:=Kd.at_int (Kd.R_reads' HLX.out).2.2 0 bI bQ
                  cases cH
                  have dA:(0<(rd_L5 aA aC).length)=True:=eq_true (by omega);(try rw[show((0:Int)).toNat=0 from rfl]at aI);(try rw[Addr.add_zero']at aI);try replace aI:=qC HB.out aI
                  replace bI:=eq_true bI;replace bQ:=eq_true bQ;have bD:0≤(aD:Int):=oD' qA;have bG:aD<(aA.length:Int):=oD' qA;obtain⟨bX,cN,cO,cI,bA,aT,aW⟩:=at_L5 (Kd.S_reads' HO_6.out).2.2 aD bD bG;obtain rfl:bU=bX:=(by injection cI)
                  obtain⟨cV,bP,bM,bC⟩:=Kd.S_get HO_6.out [] aD bD (by first|exact bG|exact oD' qA|(have e_:=(Kd.S_reads' HO_6.out).1;omega));obtain⟨cE,rfl,aK⟩:=bM;have aE:=bC 0 _ rfl;rw[Nat.add_zero,show((Kd.slice 2 (Kd.int .i64))).sz=1 from rfl,Nat.mul_one]at aE;replace aE:=Option.some.inj (aE.symm.trans bA);rw[aE]at aK;have aJ:=A' (show Kd.R (Kd.int .i64) 2 _ _ _ _ (rd_L5 aA aD)from aK);clear aE aK;clear bC bP;have aX:=A' aW;have bZ:=A' aT;clear aW aT;replace bD:=eq_true bD;replace bG:=eq_true bG;have bT:0≤(0:Int):=(by omega)
                  have bJ:0<((rd_L5 aA aD).length:Int):=oD' qA;obtain⟨dC,cL,aU⟩:=Kd.at_int (by repeat(first|(with_reducible exact aX.out)|(with_reducible refine R' ?_ _)|(with_reducible refine S' ?_ _)|(with_reducible refine T' ?_)|exact aX.out)) 0 bT bJ
                  cases cL
                  have cW:(0<(rd_L5 aA aD).length)=True:=eq_true (by omega);(try rw[show((0:Int)).toNat=0 from rfl]at aU);(try rw[Addr.add_zero']at aU);replace bT:=eq_true bT;replace bJ:=eq_true bJ;have bK:0≤(1:Int):=(by omega)
                  have bN:1<((rd_L5 aA aC).length:Int):=oD' qA;obtain⟨bW,cP,aH⟩:=Kd.at_int (Kd.R_reads' HLX.out).2.2 1 bK bN;obtain rfl:bV=bW:=(by injection cP)
                  (try simp only[show(1:Int).toNat=1 from rfl,Nat.reduceMul,Nat.reduceEqDiff,Go.Addr.add,↓reduceIte]at aH);have dD:(1<(rd_L5 aA aC).length)=True:=eq_true (by omega);(try rw[show((1:Int)).toNat=1 from rfl]at aH);try replace aH:=qC HB.out aH
                  replace bK:=eq_true bK;replace bN:=eq_true bN;have bF:0≤(aD:Int):=oD' qA;have bE:aD<(aA.length:Int):=oD' qA;obtain⟨bY,cJ,cK,cG,aR,aZ,aY⟩:=at_L5 (Kd.S_reads' HO_6.out).2.2 aD bF bE;obtain rfl:bU=bY:=(by injection cG)
                  obtain⟨cU,bS,bL,bB⟩:=Kd.S_get HO_6.out [] aD bF (by first|exact bE|exact oD' qA|(have e_:=(Kd.S_reads' HO_6.out).1;omega));obtain⟨cA,rfl,aN⟩:=bL;have aG:=bB 0 _ rfl;rw[Nat.add_zero,show((Kd.slice 2 (Kd.int .i64))).sz=1 from rfl,Nat.mul_one]at aG;replace aG:=Option.some.inj (aG.symm.trans aR);rw[aG]at aN;have aM:=A' (show Kd.R (Kd.int .i64) 2 _ _ _ _ (rd_L5 aA aD)from aN);clear aG aN;clear bB bS;have aQ:=A' aY;have cD:=A' aZ;clear aY aZ;replace bF:=eq_true bF;replace bE:=eq_true bE;have ea_:=Option.some.inj (bA.symm.trans aR)
                  injection ea_ with ea_ en_ ec_
                  subst ea_;subst ec_;clear en_;have bR:0≤(1:Int):=(by omega)
                  have bO:1<((rd_L5 aA aD).length:Int):=oD' qA;obtain⟨cS,cM,aV⟩:=Kd.at_int (by repeat(first|(with_reducible exact aQ.out)|(with_reducible refine R' ?_ _)|(with_reducible refine S' ?_ _)|(with_reducible refine T' ?_)|exact aQ.out)) 1 bR bO
                  cases cM
                  (try simp only[show(1:Int).toNat=1 from rfl,Nat.reduceMul,Nat.reduceEqDiff,Go.Addr.add,↓reduceIte]at aV);have cR:(1<(rd_L5 aA aD).length)=True:=eq_true (by omega);(try rw[show((1:Int)).toNat=1 from rfl]at aV);replace bR:=eq_true bR;replace bO:=eq_true bO;go_wp2_with (first|((with_reducible refine gate_builtin (b:=.append) (xs:=#[.tmp 63,.tmp 67]) rfl ?_);at_builtin;refine Kd.R_append k61 (w0:=w) w.heap.size rfl (.tmp 63) (.tmp 67) 83 61 (.agg #[(.int .i64 0),(.int .i64 0)]) 16 rfl Tryz.underlying83 info61 rfl (by decide) (by omega) u5 bH (⟨aC,aD⟩:S61) [.int .i64 aC,.int .i64 aD] (fun _=>True) (fun _=>False) rfl rfl ?aP (fun _ hk=>hk.elim) ?aF ?aO ?aB ?aS ?aL ?_;(case aP=>exact k61_mkM _ _ _ (⟨aC,aD⟩:S61));(case aB=>exact(qK0 HB.out));(case aF=>exact(fun _ _=>trivial));(case aO=>exact(qR HO_5.out));(case aS=>exact(V' (qK0 HB.out)));(case aL=>have:=dV.out;omega);intro eU fI ho hb hg hat;rw[← dY.out]at ho;replace HLX:=A' (Kd.R_over' (qR HLX.out) (Kd.R_typed (qR HO_5.out)) (by decide) hg);have n0_:=A' (Kd.S_over' (by(with_reducible repeat(first|apply Kd.S_alloc|apply Kd.S_drewN|apply Kd.S_drew));exact HO_6.out) (Kd.R_typed (qR HO_5.out)) (by decide) hg);have n1_:=A' (Kd.S_over' (by(with_reducible repeat(first|apply Kd.S_alloc|apply Kd.S_drewN|apply Kd.S_drew));exact HO_14.out) (Kd.R_typed (qR HO_5.out)) (by decide) hg);have n2_:=A' (Kd.R_over' (qR aJ.out) (Kd.R_typed (qR HO_5.out)) (by decide) hg);have n3_:=A' (Kd.R_over' (qR aM.out) (Kd.R_typed (qR HO_5.out)) (by decide) hg);have n4_:=A' (hb);have n5_:=A' (ho);clear HO_6;clear HO_14;clear aJ;clear aM;clear HB;clear HO_5;have HO_6:=n0_;have HO_14:=n1_;have aJ:=n2_;have aM:=n3_;have HB:=n4_;have eA:=n5_;clear n0_ n1_ n2_ n3_ n4_ n5_;clear ho hb hg hat))
                  repeat(go_quiet (fail);try go_wp2_with (first|((with_reducible refine gate_builtin (b:=.append) (xs:=#[.tmp 63,.tmp 67]) rfl ?_);at_builtin;refine Kd.R_append k61 (w0:=w) w.heap.size rfl (.tmp 63) (.tmp 67) 83 61 (.agg #[(.int .i64 0),(.int .i64 0)]) 16 rfl Tryz.underlying83 info61 rfl (by decide) (by omega) u5 bH (⟨aC,aD⟩:S61) [.int .i64 aC,.int .i64 aD] (fun _=>True) (fun _=>False) rfl rfl ?aP (fun _ hk=>hk.elim) ?aF ?aO ?aB ?aS ?aL ?_;(case aP=>exact k61_mkM _ _ _ (⟨aC,aD⟩:S61));(case aB=>exact(qK0 HB.out));(case aF=>exact(fun _ _=>trivial));(case aO=>exact(qR HO_5.out));(case aS=>exact(V' (qK0 HB.out)));(case aL=>have:=dV.out;omega);intro eU fI ho hb hg hat;rw[← dY.out]at ho;replace HLX:=A' (Kd.R_over' (qR HLX.out) (Kd.R_typed (qR HO_5.out)) (by decide) hg);have n0_:=A' (Kd.S_over' (by(with_reducible repeat(first|apply Kd.S_alloc|apply Kd.S_drewN|apply Kd.S_drew));exact HO_6.out) (Kd.R_typed (qR HO_5.out)) (by decide) hg);have n1_:=A' (Kd.S_over' (by(with_reducible repeat(first|apply Kd.S_alloc|apply Kd.S_drewN|apply Kd.S_drew));exact HO_14.out) (Kd.R_typed (qR HO_5.out)) (by decide) hg);have n2_:=A' (Kd.R_over' (qR aJ.out) (Kd.R_typed (qR HO_5.out)) (by decide) hg);have n3_:=A' (Kd.R_over' (qR aM.out) (Kd.R_typed (qR HO_5.out)) (by decide) hg);have n4_:=A' (hb);have n5_:=A' (ho);clear HO_6;clear HO_14;clear aJ;clear aM;clear HB;clear HO_5;have HO_6:=n0_;have HO_14:=n1_;have aJ:=n2_;have aM:=n3_;have HB:=n4_;have eA:=n5_;clear n0_ n1_ n2_ n3_ n4_ n5_;clear ho hb hg hat)))
                  go_roundg k2
                  case measure=>have:=dJ.out;have:=dI.out;omega
                  case rel=>exact⟨(eG),(wrap64 (aD+1)),qS,H',⟨by have:=dJ.out;have:=dI.out;omega⟩,⟨qR eA.out⟩,⟨by(with_reducible repeat(first|apply Kd.S_alloc|apply Kd.S_drewN|apply Kd.S_drew));exact HO_6.out⟩,⟨by(with_reducible repeat(first|apply Kd.S_alloc|apply Kd.S_drewN|apply Kd.S_drew));exact HO_14.out⟩,⟨qK0 HB.out⟩,⟨by(with_reducible repeat(first|apply B'|apply C'|apply D'));exact Q' HLX.out (fun _ _=>trivial)⟩⟩
                 ·rw[if_neg c20]at H;exact absurd H (by simp)
                ·rw[if_neg c19]at H;have c19b0:decide (0<(wrap64 ((wrap64 ((rd (rd_L5 aA aC) 0) - (rd (rd_L5 aA aD) 0)))*(wrap64 ((rd (rd_L5 aA aC) 1) - (rd (rd_L5 aA aD) 1))))))=false:=dF' c19;clear c19;have H':=A' H;clear H;have bI:0≤(0:Int):=(by omega)
                 have bQ:0<((rd_L5 aA aC).length:Int):=oD' qA;obtain⟨bV,cH,aI⟩:=Kd.at_int (Kd.R_reads' HLX.out).2.2 0 bI bQ
                 cases cH
                 have dA:(0<(rd_L5 aA aC).length)=True:=eq_true (by omega);(try rw[show((0:Int)).toNat=0 from rfl]at aI);(try rw[Addr.add_zero']at aI);try replace aI:=qC HB.out aI
                 replace bI:=eq_true bI;replace bQ:=eq_true bQ;have bD:0≤(aD:Int):=oD' qA;have bG:aD<(aA.length:Int):=oD' qA;obtain⟨bX,cN,cO,cI,bA,aT,aW⟩:=at_L5 (Kd.S_reads' HO_6.out).2.2 aD bD bG;obtain rfl:bU=bX:=(by injection cI)
                 obtain⟨cV,bP,bM,bC⟩:=Kd.S_get HO_6.out [] aD bD (by first|exact bG|exact oD' qA|(have e_:=(Kd.S_reads' HO_6.out).1;omega));obtain⟨cE,rfl,aK⟩:=bM;have aE:=bC 0 _ rfl;rw[Nat.add_zero,show((Kd.slice 2 (Kd.int .i64))).sz=1 from rfl,Nat.mul_one]at aE;replace aE:=Option.some.inj (aE.symm.trans bA);rw[aE]at aK;have aJ:=A' (show Kd.R (Kd.int .i64) 2 _ _ _ _ (rd_L5 aA aD)from aK);clear aE aK;clear bC bP;have aX:=A' aW;have bZ:=A' aT;clear aW aT;replace bD:=eq_true bD;replace bG:=eq_true bG;have bT:0≤(0:Int):=(by omega)
                 have bJ:0<((rd_L5 aA aD).length:Int):=oD' qA;obtain⟨dC,cL,aU⟩:=Kd.at_int (by repeat(first|(with_reducible exact aX.out)|(with_reducible refine R' ?_ _)|(with_reducible refine S' ?_ _)|(with_reducible refine T' ?_)|exact aX.out)) 0 bT bJ
                 cases cL
                 have cW:(0<(rd_L5 aA aD).length)=True:=eq_true (by omega);(try rw[show((0:Int)).toNat=0 from rfl]at aU);(try rw[Addr.add_zero']at aU);replace bT:=eq_true bT;replace bJ:=eq_true bJ;have bK:0≤(1:Int):=(by omega)
                 have bN:1<((rd_L5 aA aC).length:Int):=oD' qA;obtain⟨bW,cP,aH⟩:=Kd.at_int (Kd.R_reads' HLX.out).2.2 1 bK bN;obtain rfl:bV=bW:=(by injection cP)
                 (try simp only[show(1:Int).toNat=1 from rfl,Nat.reduceMul,Nat.reduceEqDiff,Go.Addr.add,↓reduceIte]at aH);have dD:(1<(rd_L5 aA aC).length)=True:=eq_true (by omega);(try rw[show((1:Int)).toNat=1 from rfl]at aH);try replace aH:=qC HB.out aH
                 replace bK:=eq_true bK;replace bN:=eq_true bN;have bF:0≤(aD:Int):=oD' qA;have bE:aD<(aA.length:Int):=oD' qA;obtain⟨bY,cJ,cK,cG,aR,aZ,aY⟩:=at_L5 (Kd.S_reads' HO_6.out).2.2 aD bF bE;obtain rfl:bU=bY:=(by injection cG)
                 obtain⟨cU,bS,bL,bB⟩:=Kd.S_get HO_6.out [] aD bF (by first|exact bE|exact oD' qA|(have e_:=(Kd.S_reads' HO_6.out).1;omega));obtain⟨cA,rfl,aN⟩:=bL;have aG:=bB 0 _ rfl;rw[Nat.add_zero,show((Kd.slice 2 (Kd.int .i64))).sz=1 from rfl,Nat.mul_one]at aG;replace aG:=Option.some.inj (aG.symm.trans aR);rw[aG]at aN;have aM:=A' (show Kd.R (Kd.int .i64) 2 _ _ _ _ (rd_L5 aA aD)from aN);clear aG aN;clear bB bS;have aQ:=A' aY;have cD:=A' aZ;clear aY aZ;replace bF:=eq_true bF;replace bE:=eq_true bE;have ea_:=Option.some.inj (bA.symm.trans aR)
                 injection ea_ with ea_ en_ ec_
                 subst ea_;subst ec_;clear en_;have bR:0≤(1:Int):=(by omega)
                 have bO:1<((rd_L5 aA aD).length:Int):=oD' qA;obtain⟨cS,cM,aV⟩:=Kd.at_int (by repeat(first|(with_reducible exact aQ.out)|(with_reducible refine R' ?_ _)|(with_reducible refine S' ?_ _)|(with_reducible refine T' ?_)|exact aQ.out)) 1 bR bO
                 cases cM
                 (try simp only[show(1:Int).toNat=1 from rfl,Nat.reduceMul,Nat.reduceEqDiff,Go.Addr.add,↓reduceIte]at aV);have cR:(1<(rd_L5 aA aD).length)=True:=eq_true (by omega);(try rw[show((1:Int)).toNat=1 from rfl]at aV);replace bR:=eq_true bR;replace bO:=eq_true bO;go_wp2
                 repeat(go_quiet (fail);try go_wp2)
                 go_roundg k2
                 case measure=>have:=dJ.out;have:=dI.out;omega
                 case rel=>exact⟨(bH),(wrap64 (aD+1)),qS,H',⟨by have:=dJ.out;have:=dI.out;omega⟩,⟨qR HO_5.out⟩,⟨by(with_reducible repeat(first|apply Kd.S_alloc|apply Kd.S_drewN|apply Kd.S_drew));exact HO_6.out⟩,⟨by(with_reducible repeat(first|apply Kd.S_alloc|apply Kd.S_drewN|apply Kd.S_drew));exact HO_14.out⟩,⟨qK0 HB.out⟩,⟨by(with_reducible repeat(first|apply B'|apply C'|apply D'));exact Q' HLX.out (fun _ _=>trivial)⟩⟩
               ·replace eP:=Bool.eq_false_iff.mpr eP;subst eP;have H1:(if bH.length<8796093022208 then(impl_crossings.l1 k2 false (bH ++ [(⟨aC,aD⟩:S61)]) aA aC (rd_L5 aA aC) (wrap64 (aD+1)) aA (aA.length:Int) aC)else(none))=some r:=by rw[if_neg (show¬(false=true) by decide)]at H;exact H
                clear H;have H:=H1;clear H1
                by_cases c22:bH.length<8796093022208
                ·rw[if_pos c22]at H;have dS:=A' c22;clear c22;obtain⟨eK,cX⟩: ∃y_:List (S61),y_=(bH ++ [(⟨aC,aD⟩:S61)]):=⟨_,rfl⟩
                 replace H:(impl_crossings.l1 k2 false eK aA aC (rd_L5 aA aC) (wrap64 (aD+1)) aA (aA.length:Int) aC)=some r:=by first|(rw[cX];with_reducible exact H)|(have H2_:=(Option.bind_some _ _).symm.trans H;rw[cX];with_reducible exact H2_)|(have H2_:=(Option.bind_some _ _).symm.trans H;with_reducible exact H2_)|with_reducible exact H|(rw[cX];exact H)|exact H
                 have dW:=A' cX;clear cX;have H':=A' H;clear H;have bI:0≤(0:Int):=(by omega)
                 have bQ:0<((rd_L5 aA aC).length:Int):=oD' qA;obtain⟨bV,cH,aI⟩:=Kd.at_int (Kd.R_reads' HLX.out).2.2 0 bI bQ
                 cases cH
                 have dA:(0<(rd_L5 aA aC).length)=True:=eq_true (by omega);(try rw[show((0:Int)).toNat=0 from rfl]at aI);(try rw[Addr.add_zero']at aI);try replace aI:=qC HB.out aI
                 replace bI:=eq_true bI;replace bQ:=eq_true bQ;have bD:0≤(aD:Int):=oD' qA;have bG:aD<(aA.length:Int):=oD' qA;obtain⟨bX,cN,cO,cI,bA,aT,aW⟩:=at_L5 (Kd.S_reads' HO_6.out).2.2 aD bD bG;obtain rfl:bU=bX:=(by injection cI)
                 obtain⟨cV,bP,bM,bC⟩:=Kd.S_get HO_6.out [] aD bD (by first|exact bG|exact oD' qA|(have e_:=(Kd.S_reads' HO_6.out).1;omega));obtain⟨cE,rfl,aK⟩:=bM;have aE:=bC 0 _ rfl;rw[Nat.add_zero,show((Kd.slice 2 (Kd.int .i64))).sz=1 from rfl,Nat.mul_one]at aE;replace aE:=Option.some.inj (aE.symm.trans bA);rw[aE]at aK;have aJ:=A' (show Kd.R (Kd.int .i64) 2 _ _ _ _ (rd_L5 aA aD)from aK);clear aE aK;clear bC bP;have aX:=A' aW;have bZ:=A' aT;clear aW aT;replace bD:=eq_true bD;replace bG:=eq_true bG;have bT:0≤(0:Int):=(by omega)
                 have bJ:0<((rd_L5 aA aD).length:Int):=oD' qA;obtain⟨dC,cL,aU⟩:=Kd.at_int (by repeat(first|(with_reducible exact aX.out)|(with_reducible refine R' ?_ _)|(with_reducible refine S' ?_ _)|(with_reducible refine T' ?_)|exact aX.out)) 0 bT bJ
                 cases cL
                 have cW:(0<(rd_L5 aA aD).length)=True:=eq_true (by omega);(try rw[show((0:Int)).toNat=0 from rfl]at aU);(try rw[Addr.add_zero']at aU);replace bT:=eq_true bT;replace bJ:=eq_true bJ;have bK:0≤(1:Int):=(by omega)
                 have bN:1<((rd_L5 aA aC).length:Int):=oD' qA;obtain⟨bW,cP,aH⟩:=Kd.at_int (Kd.R_reads' HLX.out).2.2 1 bK bN;obtain rfl:bV=bW:=(by injection cP)
                 (try simp only[show(1:Int).toNat=1 from rfl,Nat.reduceMul,Nat.reduceEqDiff,Go.Addr.add,↓reduceIte]at aH);have dD:(1<(rd_L5 aA aC).length)=True:=eq_true (by omega);(try rw[show((1:Int)).toNat=1 from rfl]at aH);try replace aH:=qC HB.out aH
                 replace bK:=eq_true bK;replace bN:=eq_true bN;have bF:0≤(aD:Int):=oD' qA;have bE:aD<(aA.length:Int):=oD' qA;obtain⟨bY,cJ,cK,cG,aR,aZ,aY⟩:=at_L5 (Kd.S_reads' HO_6.out).2.2 aD bF bE;obtain rfl:bU=bY:=(by injection cG)
                 obtain⟨cU,bS,bL,bB⟩:=Kd.S_get HO_6.out [] aD bF (by first|exact bE|exact oD' qA|(have e_:=(Kd.S_reads' HO_6.out).1;omega));obtain⟨cA,rfl,aN⟩:=bL;have aG:=bB 0 _ rfl;rw[Nat.add_zero,show((Kd.slice 2 (Kd.int .i64))).sz=1 from rfl,Nat.mul_one]at aG;replace aG:=Option.some.inj (aG.symm.trans aR);rw[aG]at aN;have aM:=A' (show Kd.R (Kd.int .i64) 2 _ _ _ _ (rd_L5 aA aD)from aN);clear aG aN;clear bB bS;have aQ:=A' aY;have cD:=A' aZ;clear aY aZ;replace bF:=eq_true bF;replace bE:=eq_true bE;have ea_:=Option.some.inj (bA.symm.trans aR)
                 injection ea_ with ea_ en_ ec_
                 subst ea_;subst ec_;clear en_;have bR:0≤(1:Int):=(by omega)
                 have bO:1<((rd_L5 aA aD).length:Int):=oD' qA;obtain⟨cS,cM,aV⟩:=Kd.at_int (by repeat(first|(with_reducible exact aQ.out)|(with_reducible refine R' ?_ _)|(with_reducible refine S' ?_ _)|(with_reducible refine T' ?_)|exact aQ.out)) 1 bR bO
                 cases cM
                 (try simp only[show(1:Int).toNat=1 from rfl,Nat.reduceMul,Nat.reduceEqDiff,Go.Addr.add,↓reduceIte]at aV);have cR:(1<(rd_L5 aA aD).length)=True:=eq_true (by omega);(try rw[show((1:Int)).toNat=1 from rfl]at aV);replace bR:=eq_true bR;replace bO:=eq_true bO;go_wp2_with (first|((with_reducible refine gate_builtin (b:=.append) (xs:=#[.tmp 63,.tmp 67]) rfl ?_);at_builtin;refine Kd.R_append k61 (w0:=w) w.heap.size rfl (.tmp 63) (.tmp 67) 83 61 (.agg #[(.int .i64 0),(.int .i64 0)]) 16 rfl Tryz.underlying83 info61 rfl (by decide) (by omega) u5 bH (⟨aC,aD⟩:S61) [.int .i64 aC,.int .i64 aD] (fun _=>True) (fun _=>False) rfl rfl ?aP (fun _ hk=>hk.elim) ?aF ?aO ?aB ?aS ?aL ?_;(case aP=>exact k61_mkM _ _ _ (⟨aC,aD⟩:S61));(case aB=>exact(qK0 HB.out));(case aF=>exact(fun _ _=>trivial));(case aO=>exact(qR HO_5.out));(case aS=>exact(V' (qK0 HB.out)));(case aL=>have:=dS.out;omega);intro eR fH ho hb hg hat;rw[← dW.out]at ho;replace HLX:=A' (Kd.R_over' (qR HLX.out) (Kd.R_typed (qR HO_5.out)) (by decide) hg);have n0_:=A' (Kd.S_over' (by(with_reducible repeat(first|apply Kd.S_alloc|apply Kd.S_drewN|apply Kd.S_drew));exact HO_6.out) (Kd.R_typed (qR HO_5.out)) (by decide) hg);have n1_:=A' (Kd.S_over' (by(with_reducible repeat(first|apply Kd.S_alloc|apply Kd.S_drewN|apply Kd.S_drew));exact HO_14.out) (Kd.R_typed (qR HO_5.out)) (by decide) hg);have n2_:=A' (Kd.R_over' (qR aJ.out) (Kd.R_typed (qR HO_5.out)) (by decide) hg);have n3_:=A' (Kd.R_over' (qR aM.out) (Kd.R_typed (qR HO_5.out)) (by decide) hg);have n4_:=A' (hb);have n5_:=A' (ho);clear HO_6;clear HO_14;clear aJ;clear aM;clear HB;clear HO_5;have HO_6:=n0_;have HO_14:=n1_;have aJ:=n2_;have aM:=n3_;have HB:=n4_;have dX:=n5_;clear n0_ n1_ n2_ n3_ n4_ n5_;clear ho hb hg hat))
                 repeat(go_quiet (fail);try go_wp2_with (first|((with_reducible refine gate_builtin (b:=.append) (xs:=#[.tmp 63,.tmp 67]) rfl ?_);at_builtin;refine Kd.R_append k61 (w0:=w) w.heap.size rfl (.tmp 63) (.tmp 67) 83 61 (.agg #[(.int .i64 0),(.int .i64 0)]) 16 rfl Tryz.underlying83 info61 rfl (by decide) (by omega) u5 bH (⟨aC,aD⟩:S61) [.int .i64 aC,.int .i64 aD] (fun _=>True) (fun _=>False) rfl rfl ?aP (fun _ hk=>hk.elim) ?aF ?aO ?aB ?aS ?aL ?_;(case aP=>exact k61_mkM _ _ _ (⟨aC,aD⟩:S61));(case aB=>exact(qK0 HB.out));(case aF=>exact(fun _ _=>trivial));(case aO=>exact(qR HO_5.out));(case aS=>exact(V' (qK0 HB.out)));(case aL=>have:=dS.out;omega);intro eR fH ho hb hg hat;rw[← dW.out]at ho;replace HLX:=A' (Kd.R_over' (qR HLX.out) (Kd.R_typed (qR HO_5.out)) (by decide) hg);have n0_:=A' (Kd.S_over' (by(with_reducible repeat(first|apply Kd.S_alloc|apply Kd.S_drewN|apply Kd.S_drew));exact HO_6.out) (Kd.R_typed (qR HO_5.out)) (by decide) hg);have n1_:=A' (Kd.S_over' (by(with_reducible repeat(first|apply Kd.S_alloc|apply Kd.S_drewN|apply Kd.S_drew));exact HO_14.out) (Kd.R_typed (qR HO_5.out)) (by decide) hg);have n2_:=A' (Kd.R_over' (qR aJ.out) (Kd.R_typed (qR HO_5.out)) (by decide) hg);have n3_:=A' (Kd.R_over' (qR aM.out) (Kd.R_typed (qR HO_5.out)) (by decide) hg);have n4_:=A' (hb);have n5_:=A' (ho);clear HO_6;clear HO_14;clear aJ;clear aM;clear HB;clear HO_5;have HO_6:=n0_;have HO_14:=n1_;have aJ:=n2_;have aM:=n3_;have HB:=n4_;have dX:=n5_;clear n0_ n1_ n2_ n3_ n4_ n5_;clear ho hb hg hat)))
                 go_roundg k2
                 case measure=>have:=dJ.out;have:=dI.out;omega
                 case rel=>exact⟨(eK),(wrap64 (aD+1)),qS,H',⟨by have:=dJ.out;have:=dI.out;omega⟩,⟨qR dX.out⟩,⟨by(with_reducible repeat(first|apply Kd.S_alloc|apply Kd.S_drewN|apply Kd.S_drew));exact HO_6.out⟩,⟨by(with_reducible repeat(first|apply Kd.S_alloc|apply Kd.S_drewN|apply Kd.S_drew));exact HO_14.out⟩,⟨qK0 HB.out⟩,⟨by(with_reducible repeat(first|apply B'|apply C'|apply D'));exact Q' HLX.out (fun _ _=>trivial)⟩⟩
                ·rw[if_neg c22]at H;exact absurd H (by simp)
              ·rw[if_neg c17]at H;have c17b0:decide ((wrap64 ((wrap64 ((rd (rd_L5 aA aC) 0) - (rd (rd_L5 aA aD) 0)))*(wrap64 ((rd (rd_L5 aA aC) 1) - (rd (rd_L5 aA aD) 1)))))<0)=false:=dF' c17;clear c17
               by_cases c24:(wrap64 ((wrap64 ((rd (rd_L5 aA aC) 0) - (rd (rd_L5 aA aD) 0)))*(wrap64 ((rd (rd_L5 aA aC) 1) - (rd (rd_L5 aA aD) 1))))) > 0
               ·rw[if_pos c24]at H;have c24b0:decide (0<(wrap64 ((wrap64 ((rd (rd_L5 aA aC) 0) - (rd (rd_L5 aA aD) 0)))*(wrap64 ((rd (rd_L5 aA aC) 1) - (rd (rd_L5 aA aD) 1))))))=true:=dT' c24;clear c24
                by_cases eN:a1=true
                ·subst eN;have H1:(if bH.length<8796093022208 then(impl_crossings.l1 k2 true (bH ++ [(⟨aC,aD⟩:S61)]) aA aC (rd_L5 aA aC) (wrap64 (aD+1)) aA (aA.length:Int) aC)else(none))=some r:=by rw[if_pos rfl]at H;exact H
                 clear H;have H:=H1;clear H1
                 by_cases c26:bH.length<8796093022208
                 ·rw[if_pos c26]at H;have dU:=A' c26;clear c26;obtain⟨eH,cY⟩: ∃y_:List (S61),y_=(bH ++ [(⟨aC,aD⟩:S61)]):=⟨_,rfl⟩
                  replace H:(impl_crossings.l1 k2 true eH aA aC (rd_L5 aA aC) (wrap64 (aD+1)) aA (aA.length:Int) aC)=some r:=by first|(rw[cY];with_reducible exact H)|(have H2_:=(Option.bind_some _ _).symm.trans H;rw[cY];with_reducible exact H2_)|(have H2_:=(Option.bind_some _ _).symm.trans H;with_reducible exact H2_)|with_reducible exact H|(rw[cY];exact H)|exact H
                  have dT:=A' cY;clear cY;have H':=A' H;clear H;have bI:0≤(0:Int):=(by omega)
                  have bQ:0<((rd_L5 aA aC).length:Int):=oD' qA;obtain⟨bV,cH,aI⟩:=Kd.at_int (Kd.R_reads' HLX.out).2.2 0 bI bQ
                  cases cH
                  have dA:(0<(rd_L5 aA aC).length)=True:=eq_true (by omega);(try rw[show((0:Int)).toNat=0 from rfl]at aI);(try rw[Addr.add_zero']at aI);try replace aI:=qC HB.out aI
                  replace bI:=eq_true bI;replace bQ:=eq_true bQ;have bD:0≤(aD:Int):=oD' qA;have bG:aD<(aA.length:Int):=oD' qA;obtain⟨bX,cN,cO,cI,bA,aT,aW⟩:=at_L5 (Kd.S_reads' HO_6.out).2.2 aD bD bG;obtain rfl:bU=bX:=(by injection cI)
                  obtain⟨cV,bP,bM,bC⟩:=Kd.S_get HO_6.out [] aD bD (by first|exact bG|exact oD' qA|(have e_:=(Kd.S_reads' HO_6.out).1;omega));obtain⟨cE,rfl,aK⟩:=bM;have aE:=bC 0 _ rfl;rw[Nat.add_zero,show((Kd.slice 2 (Kd.int .i64))).sz=1 from rfl,Nat.mul_one]at aE;replace aE:=Option.some.inj (aE.symm.trans bA);rw[aE]at aK;have aJ:=A' (show Kd.R (Kd.int .i64) 2 _ _ _ _ (rd_L5 aA aD)from aK);clear aE aK;clear bC bP;have aX:=A' aW;have bZ:=A' aT;clear aW aT;replace bD:=eq_true bD;replace bG:=eq_true bG;have bT:0≤(0:Int):=(by omega)
                  have bJ:0<((rd_L5 aA aD).length:Int):=oD' qA;obtain⟨dC,cL,aU⟩:=Kd.at_int (by repeat(first|(with_reducible exact aX.out)|(with_reducible refine R' ?_ _)|(with_reducible refine S' ?_ _)|(with_reducible refine T' ?_)|exact aX.out)) 0 bT bJ
                  cases cL
                  have cW:(0<(rd_L5 aA aD).length)=True:=eq_true (by omega);(try rw[show((0:Int)).toNat=0 from rfl]at aU);(try rw[Addr.add_zero']at aU);replace bT:=eq_true bT;replace bJ:=eq_true bJ;have bK:0≤(1:Int):=(by omega)
                  have bN:1<((rd_L5 aA aC).length:Int):=oD' qA;obtain⟨bW,cP,aH⟩:=Kd.at_int (Kd.R_reads' HLX.out).2.2 1 bK bN;obtain rfl:bV=bW:=(by injection cP)
                  (try simp only[show(1:Int).toNat=1 from rfl,Nat.reduceMul,Nat.reduceEqDiff,Go.Addr.add,↓reduceIte]at aH);have dD:(1<(rd_L5 aA aC).length)=True:=eq_true (by omega);(try rw[show((1:Int)).toNat=1 from rfl]at aH);try replace aH:=qC HB.out aH
                  replace bK:=eq_true bK;replace bN:=eq_true bN;have bF:0≤(aD:Int):=oD' qA;have bE:aD<(aA.length:Int):=oD' qA;obtain⟨bY,cJ,cK,cG,aR,aZ,aY⟩:=at_L5 (Kd.S_reads' HO_6.out).2.2 aD bF bE;obtain rfl:bU=bY:=(by injection cG)
                  obtain⟨cU,bS,bL,bB⟩:=Kd.S_get HO_6.out [] aD bF (by first|exact bE|exact oD' qA|(have e_:=(Kd.S_reads' HO_6.out).1;omega));obtain⟨cA,rfl,aN⟩:=bL;have aG:=bB 0 _ rfl;rw[Nat.add_zero,show((Kd.slice 2 (Kd.int .i64))).sz=1 from rfl,Nat.mul_one]at aG;replace aG:=Option.some.inj (aG.symm.trans aR);rw[aG]at aN;have aM:=A' (show Kd.R (Kd.int .i64) 2 _ _ _ _ (rd_L5 aA aD)from aN);clear aG aN;clear bB bS;have aQ:=A' aY;have cD:=A' aZ;clear aY aZ;replace bF:=eq_true bF;replace bE:=eq_true bE;have ea_:=Option.some.inj (bA.symm.trans aR)
                  injection ea_ with ea_ en_ ec_
                  subst ea_;subst ec_;clear en_;have bR:0≤(1:Int):=(by omega)
                  have bO:1<((rd_L5 aA aD).length:Int):=oD' qA;obtain⟨cS,cM,aV⟩:=Kd.at_int (by repeat(first|(with_reducible exact aQ.out)|(with_reducible refine R' ?_ _)|(with_reducible refine S' ?_ _)|(with_reducible refine T' ?_)|exact aQ.out)) 1 bR bO
                  cases cM
                  (try simp only[show(1:Int).toNat=1 from rfl,Nat.reduceMul,Nat.reduceEqDiff,Go.Addr.add,↓reduceIte]at aV);have cR:(1<(rd_L5 aA aD).length)=True:=eq_true (by omega);(try rw[show((1:Int)).toNat=1 from rfl]at aV);replace bR:=eq_true bR;replace bO:=eq_true bO;go_wp2_with (first|((with_reducible refine gate_builtin (b:=.append) (xs:=#[.tmp 63,.tmp 67]) rfl ?_);at_builtin;refine Kd.R_append k61 (w0:=w) w.heap.size rfl (.tmp 63) (.tmp 67) 83 61 (.agg #[(.int .i64 0),(.int .i64 0)]) 16 rfl Tryz.underlying83 info61 rfl (by decide) (by omega) u5 bH (⟨aC,aD⟩:S61) [.int .i64 aC,.int .i64 aD] (fun _=>True) (fun _=>False) rfl rfl ?aP (fun _ hk=>hk.elim) ?aF ?aO ?aB ?aS ?aL ?_;(case aP=>exact k61_mkM _ _ _ (⟨aC,aD⟩:S61));(case aB=>exact(qK0 HB.out));(case aF=>exact(fun _ _=>trivial));(case aO=>exact(qR HO_5.out));(case aS=>exact(V' (qK0 HB.out)));(case aL=>have:=dU.out;omega);intro eV fE ho hb hg hat;rw[← dT.out]at ho;replace HLX:=A' (Kd.R_over' (qR HLX.out) (Kd.R_typed (qR HO_5.out)) (by decide) hg);have n0_:=A' (Kd.S_over' (by(with_reducible repeat(first|apply Kd.S_alloc|apply Kd.S_drewN|apply Kd.S_drew));exact HO_6.out) (Kd.R_typed (qR HO_5.out)) (by decide) hg);have n1_:=A' (Kd.S_over' (by(with_reducible repeat(first|apply Kd.S_alloc|apply Kd.S_drewN|apply Kd.S_drew));exact HO_14.out) (Kd.R_typed (qR HO_5.out)) (by decide) hg);have n2_:=A' (Kd.R_over' (qR aJ.out) (Kd.R_typed (qR HO_5.out)) (by decide) hg);have n3_:=A' (Kd.R_over' (qR aM.out) (Kd.R_typed (qR HO_5.out)) (by decide) hg);have n4_:=A' (hb);have n5_:=A' (ho);clear HO_6;clear HO_14;clear aJ;clear aM;clear HB;clear HO_5;have HO_6:=n0_;have HO_14:=n1_;have aJ:=n2_;have aM:=n3_;have HB:=n4_;have dZ:=n5_;clear n0_ n1_ n2_ n3_ n4_ n5_;clear ho hb hg hat))
                  repeat(go_quiet (fail);try go_wp2_with (first|((with_reducible refine gate_builtin (b:=.append) (xs:=#[.tmp 63,.tmp 67]) rfl ?_);at_builtin;refine Kd.R_append k61 (w0:=w) w.heap.size rfl (.tmp 63) (.tmp 67) 83 61 (.agg #[(.int .i64 0),(.int .i64 0)]) 16 rfl Tryz.underlying83 info61 rfl (by decide) (by omega) u5 bH (⟨aC,aD⟩:S61) [.int .i64 aC,.int .i64 aD] (fun _=>True) (fun _=>False) rfl rfl ?aP (fun _ hk=>hk.elim) ?aF ?aO ?aB ?aS ?aL ?_;(case aP=>exact k61_mkM _ _ _ (⟨aC,aD⟩:S61));(case aB=>exact(qK0 HB.out));(case aF=>exact(fun _ _=>trivial));(case aO=>exact(qR HO_5.out));(case aS=>exact(V' (qK0 HB.out)));(case aL=>have:=dU.out;omega);intro eV fE ho hb hg hat;rw[← dT.out]at ho;replace HLX:=A' (Kd.R_over' (qR HLX.out) (Kd.R_typed (qR HO_5.out)) (by decide) hg);have n0_:=A' (Kd.S_over' (by(with_reducible repeat(first|apply Kd.S_alloc|apply Kd.S_drewN|apply Kd.S_drew));exact HO_6.out) (Kd.R_typed (qR HO_5.out)) (by decide) hg);have n1_:=A' (Kd.S_over' (by(with_reducible repeat(first|apply Kd.S_alloc|apply Kd.S_drewN|apply Kd.S_drew));exact HO_14.out) (Kd.R_typed (qR HO_5.out)) (by decide) hg);have n2_:=A' (Kd.R_over' (qR aJ.out) (Kd.R_typed (qR HO_5.out)) (by decide) hg);have n3_:=A' (Kd.R_over' (qR aM.out) (Kd.R_typed (qR HO_5.out)) (by decide) hg);have n4_:=A' (hb);have n5_:=A' (ho);clear HO_6;clear HO_14;clear aJ;clear aM;clear HB;clear HO_5;have HO_6:=n0_;have HO_14:=n1_;have aJ:=n2_;have aM:=n3_;have HB:=n4_;have dZ:=n5_;clear n0_ n1_ n2_ n3_ n4_ n5_;clear ho hb hg hat)))
                  go_roundg k2
                  case measure=>have:=dJ.out;have:=dI.out;omega
                  case rel=>exact⟨(eH),(wrap64 (aD+1)),qS,H',⟨by have:=dJ.out;have:=dI.out;omega⟩,⟨qR dZ.out⟩,⟨by(with_reducible repeat(first|apply Kd.S_alloc|apply Kd.S_drewN|apply Kd.S_drew));exact HO_6.out⟩,⟨by(with_reducible repeat(first|apply Kd.S_alloc|apply Kd.S_drewN|apply Kd.S_drew));exact HO_14.out⟩,⟨qK0 HB.out⟩,⟨by(with_reducible repeat(first|apply B'|apply C'|apply D'));exact Q' HLX.out (fun _ _=>trivial)⟩⟩
                 ·rw[if_neg c26]at H;exact absurd H (by simp)
                ·replace eN:=Bool.eq_false_iff.mpr eN;subst eN;have H1:(impl_crossings.l1 k2 false bH aA aC (rd_L5 aA aC) (wrap64 (aD+1)) aA (aA.length:Int) aC)=some r:=by rw[if_neg (show¬(false=true) by decide)]at H;exact H
                 clear H;have H:=H1;clear H1;have H':=A' H;clear H;have bI:0≤(0:Int):=(by omega)
                 have bQ:0<((rd_L5 aA aC).length:Int):=oD' qA;obtain⟨bV,cH,aI⟩:=Kd.at_int (Kd.R_reads' HLX.out).2.2 0 bI bQ
                 cases cH
                 have dA:(0<(rd_L5 aA aC).length)=True:=eq_true (by omega);(try rw[show((0:Int)).toNat=0 from rfl]at aI);(try rw[Addr.add_zero']at aI);try replace aI:=qC HB.out aI
                 replace bI:=eq_true bI;replace bQ:=eq_true bQ;have bD:0≤(aD:Int):=oD' qA;have bG:aD<(aA.length:Int):=oD' qA;obtain⟨bX,cN,cO,cI,bA,aT,aW⟩:=at_L5 (Kd.S_reads' HO_6.out).2.2 aD bD bG;obtain rfl:bU=bX:=(by injection cI)
                 obtain⟨cV,bP,bM,bC⟩:=Kd.S_get HO_6.out [] aD bD (by first|exact bG|exact oD' qA|(have e_:=(Kd.S_reads' HO_6.out).1;omega));obtain⟨cE,rfl,aK⟩:=bM;have aE:=bC 0 _ rfl;rw[Nat.add_zero,show((Kd.slice 2 (Kd.int .i64))).sz=1 from rfl,Nat.mul_one]at aE;replace aE:=Option.some.inj (aE.symm.trans bA);rw[aE]at aK;have aJ:=A' (show Kd.R (Kd.int .i64) 2 _ _ _ _ (rd_L5 aA aD)from aK);clear aE aK;clear bC bP;have aX:=A' aW;have bZ:=A' aT;clear aW aT;replace bD:=eq_true bD;replace bG:=eq_true bG;have bT:0≤(0:Int):=(by omega)
                 have bJ:0<((rd_L5 aA aD).length:Int):=oD' qA;obtain⟨dC,cL,aU⟩:=Kd.at_int (by repeat(first|(with_reducible exact aX.out)|(with_reducible refine R' ?_ _)|(with_reducible refine S' ?_ _)|(with_reducible refine T' ?_)|exact aX.out)) 0 bT bJ
                 cases cL
                 have cW:(0<(rd_L5 aA aD).length)=True:=eq_true (by omega);(try rw[show((0:Int)).toNat=0 from rfl]at aU);(try rw[Addr.add_zero']at aU);replace bT:=eq_true bT;replace bJ:=eq_true bJ;have bK:0≤(1:Int):=(by omega)
                 have bN:1<((rd_L5 aA aC).length:Int):=oD' qA;obtain⟨bW,cP,aH⟩:=Kd.at_int (Kd.R_reads' HLX.out).2.2 1 bK bN;obtain rfl:bV=bW:=(by injection cP)
                 (try simp only[show(1:Int).toNat=1 from rfl,Nat.reduceMul,Nat.reduceEqDiff,Go.Addr.add,↓reduceIte]at aH);have dD:(1<(rd_L5 aA aC).length)=True:=eq_true (by omega);(try rw[show((1:Int)).toNat=1 from rfl]at aH);try replace aH:=qC HB.out aH
                 replace bK:=eq_true bK;replace bN:=eq_true bN;have bF:0≤(aD:Int):=oD' qA;have bE:aD<(aA.length:Int):=oD' qA;obtain⟨bY,cJ,cK,cG,aR,aZ,aY⟩:=at_L5 (Kd.S_reads' HO_6.out).2.2 aD bF bE;obtain rfl:bU=bY:=(by injection cG)
                 obtain⟨cU,bS,bL,bB⟩:=Kd.S_get HO_6.out [] aD bF (by first|exact bE|exact oD' qA|(have e_:=(Kd.S_reads' HO_6.out).1;omega));obtain⟨cA,rfl,aN⟩:=bL;have aG:=bB 0 _ rfl;rw[Nat.add_zero,show((Kd.slice 2 (Kd.int .i64))).sz=1 from rfl,Nat.mul_one]at aG;replace aG:=Option.some.inj (aG.symm.trans aR);rw[aG]at aN;have aM:=A' (show Kd.R (Kd.int .i64) 2 _ _ _ _ (rd_L5 aA aD)from aN);clear aG aN;clear bB bS;have aQ:=A' aY;have cD:=A' aZ;clear aY aZ;replace bF:=eq_true bF;replace bE:=eq_true bE;have ea_:=Option.some.inj (bA.symm.trans aR)
                 injection ea_ with ea_ en_ ec_
                 subst ea_;subst ec_;clear en_;have bR:0≤(1:Int):=(by omega)
                 have bO:1<((rd_L5 aA aD).length:Int):=oD' qA;obtain⟨cS,cM,aV⟩:=Kd.at_int (by repeat(first|(with_reducible exact aQ.out)|(with_reducible refine R' ?_ _)|(with_reducible refine S' ?_ _)|(with_reducible refine T' ?_)|exact aQ.out)) 1 bR bO
                 cases cM
                 (try simp only[show(1:Int).toNat=1 from rfl,Nat.reduceMul,Nat.reduceEqDiff,Go.Addr.add,↓reduceIte]at aV);have cR:(1<(rd_L5 aA aD).length)=True:=eq_true (by omega);(try rw[show((1:Int)).toNat=1 from rfl]at aV);replace bR:=eq_true bR;replace bO:=eq_true bO;go_wp2
                 repeat(go_quiet (fail);try go_wp2)
                 go_roundg k2
                 case measure=>have:=dJ.out;have:=dI.out;omega
                 case rel=>exact⟨(bH),(wrap64 (aD+1)),qS,H',⟨by have:=dJ.out;have:=dI.out;omega⟩,⟨qR HO_5.out⟩,⟨by(with_reducible repeat(first|apply Kd.S_alloc|apply Kd.S_drewN|apply Kd.S_drew));exact HO_6.out⟩,⟨by(with_reducible repeat(first|apply Kd.S_alloc|apply Kd.S_drewN|apply Kd.S_drew));exact HO_14.out⟩,⟨qK0 HB.out⟩,⟨by(with_reducible repeat(first|apply B'|apply C'|apply D'));exact Q' HLX.out (fun _ _=>trivial)⟩⟩
               ·rw[if_neg c24]at H;have c24b0:decide (0<(wrap64 ((wrap64 ((rd (rd_L5 aA aC) 0) - (rd (rd_L5 aA aD) 0)))*(wrap64 ((rd (rd_L5 aA aC) 1) - (rd (rd_L5 aA aD) 1))))))=false:=dF' c24;clear c24;have H':=A' H;clear H;have bI:0≤(0:Int):=(by omega)
                have bQ:0<((rd_L5 aA aC).length:Int):=oD' qA;obtain⟨bV,cH,aI⟩:=Kd.at_int (Kd.R_reads' HLX.out).2.2 0 bI bQ
                cases cH
                have dA:(0<(rd_L5 aA aC).length)=True:=eq_true (by omega);(try rw[show((0:Int)).toNat=0 from rfl]at aI);(try rw[Addr.add_zero']at aI);try replace aI:=qC HB.out aI
                replace bI:=eq_true bI;replace bQ:=eq_true bQ;have bD:0≤(aD:Int):=oD' qA;have bG:aD<(aA.length:Int):=oD' qA;obtain⟨bX,cN,cO,cI,bA,aT,aW⟩:=at_L5 (Kd.S_reads' HO_6.out).2.2 aD bD bG;obtain rfl:bU=bX:=(by injection cI)
                obtain⟨cV,bP,bM,bC⟩:=Kd.S_get HO_6.out [] aD bD (by first|exact bG|exact oD' qA|(have e_:=(Kd.S_reads' HO_6.out).1;omega));obtain⟨cE,rfl,aK⟩:=bM;have aE:=bC 0 _ rfl;rw[Nat.add_zero,show((Kd.slice 2 (Kd.int .i64))).sz=1 from rfl,Nat.mul_one]at aE;replace aE:=Option.some.inj (aE.symm.trans bA);rw[aE]at aK;have aJ:=A' (show Kd.R (Kd.int .i64) 2 _ _ _ _ (rd_L5 aA aD)from aK);clear aE aK;clear bC bP;have aX:=A' aW;have bZ:=A' aT;clear aW aT;replace bD:=eq_true bD;replace bG:=eq_true bG;have bT:0≤(0:Int):=(by omega)
                have bJ:0<((rd_L5 aA aD).length:Int):=oD' qA;obtain⟨dC,cL,aU⟩:=Kd.at_int (by repeat(first|(with_reducible exact aX.out)|(with_reducible refine R' ?_ _)|(with_reducible refine S' ?_ _)|(with_reducible refine T' ?_)|exact aX.out)) 0 bT bJ
                cases cL
                have cW:(0<(rd_L5 aA aD).length)=True:=eq_true (by omega);(try rw[show((0:Int)).toNat=0 from rfl]at aU);(try rw[Addr.add_zero']at aU);replace bT:=eq_true bT;replace bJ:=eq_true bJ;have bK:0≤(1:Int):=(by omega)
                have bN:1<((rd_L5 aA aC).length:Int):=oD' qA;obtain⟨bW,cP,aH⟩:=Kd.at_int (Kd.R_reads' HLX.out).2.2 1 bK bN;obtain rfl:bV=bW:=(by injection cP)
                (try simp only[show(1:Int).toNat=1 from rfl,Nat.reduceMul,Nat.reduceEqDiff,Go.Addr.add,↓reduceIte]at aH);have dD:(1<(rd_L5 aA aC).length)=True:=eq_true (by omega);(try rw[show((1:Int)).toNat=1 from rfl]at aH);try replace aH:=qC HB.out aH
                replace bK:=eq_true bK;replace bN:=eq_true bN;have bF:0≤(aD:Int):=oD' qA;have bE:aD<(aA.length:Int):=oD' qA;obtain⟨bY,cJ,cK,cG,aR,aZ,aY⟩:=at_L5 (Kd.S_reads' HO_6.out).2.2 aD bF bE;obtain rfl:bU=bY:=(by injection cG)
                obtain⟨cU,bS,bL,bB⟩:=Kd.S_get HO_6.out [] aD bF (by first|exact bE|exact oD' qA|(have e_:=(Kd.S_reads' HO_6.out).1;omega));obtain⟨cA,rfl,aN⟩:=bL;have aG:=bB 0 _ rfl;rw[Nat.add_zero,show((Kd.slice 2 (Kd.int .i64))).sz=1 from rfl,Nat.mul_one]at aG;replace aG:=Option.some.inj (aG.symm.trans aR);rw[aG]at aN;have aM:=A' (show Kd.R (Kd.int .i64) 2 _ _ _ _ (rd_L5 aA aD)from aN);clear aG aN;clear bB bS;have aQ:=A' aY;have cD:=A' aZ;clear aY aZ;replace bF:=eq_true bF;replace bE:=eq_true bE;have ea_:=Option.some.inj (bA.symm.trans aR)
                injection ea_ with ea_ en_ ec_
                subst ea_;subst ec_;clear en_;have bR:0≤(1:Int):=(by omega)
                have bO:1<((rd_L5 aA aD).length:Int):=oD' qA;obtain⟨cS,cM,aV⟩:=Kd.at_int (by repeat(first|(with_reducible exact aQ.out)|(with_reducible refine R' ?_ _)|(with_reducible refine S' ?_ _)|(with_reducible refine T' ?_)|exact aQ.out)) 1 bR bO
                cases cM
                (try simp only[show(1:Int).toNat=1 from rfl,Nat.reduceMul,Nat.reduceEqDiff,Go.Addr.add,↓reduceIte]at aV);have cR:(1<(rd_L5 aA aD).length)=True:=eq_true (by omega);(try rw[show((1:Int)).toNat=1 from rfl]at aV);replace bR:=eq_true bR;replace bO:=eq_true bO;go_wp2
                repeat(go_quiet (fail);try go_wp2)
                go_roundg k2
                case measure=>have:=dJ.out;have:=dI.out;omega
                case rel=>exact⟨(bH),(wrap64 (aD+1)),qS,H',⟨by have:=dJ.out;have:=dI.out;omega⟩,⟨qR HO_5.out⟩,⟨by(with_reducible repeat(first|apply Kd.S_alloc|apply Kd.S_drewN|apply Kd.S_drew));exact HO_6.out⟩,⟨by(with_reducible repeat(first|apply Kd.S_alloc|apply Kd.S_drewN|apply Kd.S_drew));exact HO_14.out⟩,⟨qK0 HB.out⟩,⟨by(with_reducible repeat(first|apply B'|apply C'|apply D'));exact Q' HLX.out (fun _ _=>trivial)⟩⟩
             ·rw[if_neg c16]at H;exact absurd H (by simp)
            ·rw[if_neg c15]at H;exact absurd H (by simp)
           ·rw[if_neg c14]at H;exact absurd H (by simp)
          ·rw[if_neg c13]at H;exact absurd H (by simp)
         ·rw[if_neg c12]at H;exact absurd H (by simp)
        ·rw[if_neg c11]at H;have c11b0:decide (aD<(aA.length:Int))=false:=dF' c11;clear c11;have H':=A' H;clear H;go_wp2
         repeat(go_quiet (fail);try go_wp2)
         go_roundg k2
         case measure=>have:=dJ.out;have:=dI.out;omega
         case rel=>exact⟨(bH),(wrap64 (aC+1)),qS,H',⟨by have:=dJ.out;have:=dI.out;omega⟩,⟨qR HO_5.out⟩,⟨by(with_reducible repeat(first|apply Kd.S_alloc|apply Kd.S_drewN|apply Kd.S_drew));exact HO_6.out⟩,⟨by(with_reducible repeat(first|apply Kd.S_alloc|apply Kd.S_drewN|apply Kd.S_drew));exact HO_14.out⟩,⟨qK0 HB.out⟩⟩
     ·rw[if_neg c10]at H;exact absurd H (by simp)
    ·rw[if_neg c9]at H;exact absurd H (by simp)
   ·rw[if_neg c8]at H;have c8b0:decide (aC<(aA.length:Int))=false:=dF' c8;clear c8;obtain rfl:=Option.some.inj H;go_wp2
    repeat(go_quiet (fail);try go_wp2)
    go_ret;exact⟨_,qE,qR HO_5.out,qK0 HB.out⟩
/-! ### impl_CrossingsOf: function 25 -/
def impl_CrossingsOf.f (k:Nat) (aB:Int) (aD:Int) (aC:Bool) (l1:List (S51)) (a2:Bool):Option (Int×Int):=(impl_wayCode.f k aB aD aC l1).bind fun aA=>(if aA=0 then((impl_crossings.f k l1 a2).bind fun aE=>(some ((aE.length:Int),0)))else(some (0,aA)))
theorem impl_CrossingsOf.mono: ∀a0 a1 a2 a3 a4 k,LeO (impl_CrossingsOf.f k a0 a1 a2 a3 a4) (impl_CrossingsOf.f (k+1) a0 a1 a2 a3 a4):=by
 intro a0 a1 a2 a3 a4 k
 unfold impl_CrossingsOf.f
 repeat' first
   |(with_reducible exact impl_crossings.mono _ _ _)
   |(with_reducible exact impl_wayCode.mono _ _ _ _ _)
   |(with_reducible exact LeO.refl _)
   |(with_reducible exact LeO.none _)
   |(with_reducible refine LeO.ite ?_ ?_)
   |(with_reducible refine LeO.bind ?_ (fun _=>?_))
   |exact LeO.none _
   |refine LeO.ite ?_ ?_
   |refine LeO.bind ?_ (fun _=>?_)
set_option maxHeartbeats 8000000 in
set_option maxRecDepth 100000 in
theorem impl_CrossingsOf.calls (k:Nat) (aD:Int) (aF:Int) (aG:Bool) (A1:Option Addr) (c1:Nat) (l1:List (S51)) (a2:Bool) (r1:Int) (r2:Int) (w:World) (bC:Kd.C k51 w A1 l1.length l1) (bG:l1.length≤c1) (h:impl_CrossingsOf.f k aD aF aG l1 a2=some (r1,r2)):
  Calls Tryz.prog 25 #[.agg #[.int .i64 aD,.int .i64 aF,.bool aG],.slice A1 l1.length c1,.bool a2] w fun e w'=>e= .returned (.tuple #[.int .i64 r1,.int .i64 r2])∧Below w.heap.size w w':=by
 have bJ:=Tryz.underlying25;have bB:=A' bC;have aY:=A' bG;clear bC bG;have HB:=A' (Below.refl w.heap.size w);have H:((impl_wayCode.f k aD aF aG l1).bind fun aC=>(if aC=0 then((impl_crossings.f k l1 a2).bind fun aJ=>(some ((aJ.length:Int),0)))else(some (0,aC))))=some (r1,r2):=h;clear h;replace H:=Option.bind_eq_some_iff.mp H;obtain⟨aC,bF,H⟩:=H;replace H:(if aC=0 then((impl_crossings.f k l1 a2).bind fun aJ=>(some ((aJ.length:Int),0)))else(some (0,aC)))=some (r1,r2):=H;have A4:=A' bF;clear bF
 by_cases c5:aC=0
 ·rw[if_pos c5]at H;have c5b0:(aC == 0)=true:=beq_iff_eq.mpr c5;have c5b1:(aC != 0)=false:=bne_eq_false_iff_eq.mpr c5;clear c5;replace H:=Option.bind_eq_some_iff.mp H;obtain⟨aJ,bE,H⟩:=H;replace H:(some ((aJ.length:Int),0))=some (r1,r2):=H;have A6:=A' bE;clear bE;simp only[Option.some.injEq,Prod.mk.injEq]at H;obtain⟨rfl,rfl⟩:=H;go_enter Tryz.func25,Tryz.ntmps25;go_wp2_with (first|((with_reducible refine gate_dst (N:=3) rfl ?_);refine box_event ?hg (N:=3) ?hd (cs:=#[.int .i64 aD,.int .i64 aF,.bool aG]) (t:=25) ?hr ?_;(case hd=>rfl);(case hg=>rfl);(case hr=>first|(go_simp;done)|(go_simp;rfl));intro aB hg w7 hbox hb;have n0_:=A' (W' (qK0 HB.out) hb);have n1_:=A' (hbox);have n2_:=A' ((by rw[hg];exact(V' (qK0 HB.out)):w.heap.size≤aB));have n3_:=A' ((by rw[hg];exact(V' (qK0 HB.out)):w.heap.size≤aB));clear HB;have HB:=n0_;have aA:=n1_;have aL:=n2_;have aE:=n3_;clear n0_ n1_ n2_ n3_;clear hb hbox hg;have bA:w7.cell? ⟨aB,0,none⟩=some (.int .i64 aD):=(N' aA.out 0).trans rfl;have aS:w7.cell? ⟨aB,1,none⟩=some (.int .i64 aF):=(N' aA.out 1).trans rfl;have aT:w7.cell? ⟨aB,2,none⟩=some (.bool aG):=(N' aA.out 2).trans rfl;have aX:=Y' aA.out 0;have aV:=Y' aA.out 1;have aZ:=Y' aA.out 2)|((with_reducible refine gate_callee (f:=27) rfl ?_);refine goesL_ (some 11) rfl rfl Tryz.func27 (by kernel_rfl) rfl #[.agg #[.int .i64 aD,.int .i64 aF,.bool aG],.slice A1 l1.length c1] rfl (by(try simp only[List.map_toArray,List.map_cons,List.map_nil]);first|done|rfl|(simp only[List.length_drop,List.length_take];rfl)) ?_;(with_reducible refine(impl_wayCode.calls k aD aF aG _ _ l1 aC _ ?aI ?aH A4.out).mono ?_);(case aI=>exact qT (X' bB.out HB.out));(case aH=>exact aY.out);rintro e w9 ⟨rfl,hb⟩;refine⟨_,rfl,?_⟩;replace aA:=A' (O' (g:=aB) (qB aA.out) hb);replace HB:=A' (W' (qK1 HB.out aE.out) hb);(try clear hb);(try clear hb2);(try clear hk);(try clear hi))|((with_reducible refine gate_callee (f:=55) rfl ?_);refine goesL_ (some 17) rfl rfl Tryz.func55 (by kernel_rfl) rfl #[.slice A1 l1.length c1,.bool a2] rfl (by(try simp only[List.map_toArray,List.map_cons,List.map_nil]);first|done|rfl|(simp only[List.length_drop,List.length_take];rfl)) ?_;(with_reducible refine(impl_crossings.calls k _ _ l1 a2 aJ _ ?aI ?aH A6.out).mono ?_);(case aI=>exact qT (X' bB.out HB.out));(case aH=>exact aY.out);rintro e bL ⟨bK,rfl,bD,hb⟩;refine⟨_,rfl,?_⟩;have n0_:=A' (Kd.R_lower bD (V' (qK1 HB.out aE.out)));have n1_:=A' (O' (g:=aB) (qB aA.out) hb);have n2_:=A' (W' (qK1 HB.out aE.out) hb);clear aA;clear HB;have aK:=n0_;have aA:=n1_;have HB:=n2_;clear n0_ n1_ n2_;(try clear hb);(try clear hb2);(try clear hk);(try clear hi);(try clear bD);obtain⟨bH,bI,aU⟩:=Kd.R_slice aK.out;subst aU));go_ret2;exact⟨qE,qK1 HB.out aE.out⟩
 ·rw[if_neg c5]at H;have c5b0:(aC == 0)=false:=beq_eq_false_iff_ne.mpr c5;have c5b1:(aC != 0)=true:=bne_iff_ne.mpr c5;simp only[Option.some.injEq,Prod.mk.injEq]at H;obtain⟨rfl,rfl⟩:=H;go_enter Tryz.func25,Tryz.ntmps25;go_wp2_with (first|((with_reducible refine gate_dst (N:=3) rfl ?_);refine box_event ?hg (N:=3) ?hd (cs:=#[.int .i64 aD,.int .i64 aF,.bool aG]) (t:=25) ?hr ?_;(case hd=>rfl);(case hg=>rfl);(case hr=>first|(go_simp;done)|(go_simp;rfl));intro aB hg aW hbox hb;have n0_:=A' (W' (qK0 HB.out) hb);have n1_:=A' (hbox);have n2_:=A' ((by rw[hg];exact(V' (qK0 HB.out)):w.heap.size≤aB));have n3_:=A' ((by rw[hg];exact(V' (qK0 HB.out)):w.heap.size≤aB));clear HB;have HB:=n0_;have aA:=n1_;have aL:=n2_;have aE:=n3_;clear n0_ n1_ n2_ n3_;clear hb hbox hg;have aO:aW.cell? ⟨aB,0,none⟩=some (.int .i64 aD):=(N' aA.out 0).trans rfl;have aN:aW.cell? ⟨aB,1,none⟩=some (.int .i64 aF):=(N' aA.out 1).trans rfl;have aP:aW.cell? ⟨aB,2,none⟩=some (.bool aG):=(N' aA.out 2).trans rfl;have aQ:=Y' aA.out 0;have aR:=Y' aA.out 1;have aM:=Y' aA.out 2)|((with_reducible refine gate_callee (f:=27) rfl ?_);refine goesL_ (some 11) rfl rfl Tryz.func27 (by kernel_rfl) rfl #[.agg #[.int .i64 aD,.int .i64 aF,.bool aG],.slice A1 l1.length c1] rfl (by(try simp only[List.map_toArray,List.map_cons,List.map_nil]);first|done|rfl|(simp only[List.length_drop,List.length_take];rfl)) ?_;(with_reducible refine(impl_wayCode.calls k aD aF aG _ _ l1 aC _ ?aI ?aH A4.out).mono ?_);(case aI=>exact qT (X' bB.out HB.out));(case aH=>exact aY.out);rintro e bM ⟨rfl,hb⟩;refine⟨_,rfl,?_⟩;replace aA:=A' (O' (g:=aB) (qB aA.out) hb);replace HB:=A' (W' (qK1 HB.out aE.out) hb);(try clear hb);(try clear hb2);(try clear hk);(try clear hi)));go_ret2;exact⟨qE,qK1 HB.out aE.out⟩
end Go.Proofs.YtifdihbndlmgpaaGreatDoor.HWys
