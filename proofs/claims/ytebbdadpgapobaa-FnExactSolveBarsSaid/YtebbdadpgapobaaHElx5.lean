-- Written by a program for this claim (the functions that the statement reaches, and that the program's code comes to them).
import Derived.Test.YtebbdadpgapobaaHElx0
import Derived.Test.YtebbdadpgapobaaHElx3
namespace Go.Proofs.Ytebbdadpgapobaa.HEl
open Go.RowKit Go.Proofs.YtebbdadpgapobaaW.PrintWords Go.Proofs.YtebbdadpgapobaaW.PrintLast Go.Proofs.YtebbdadpgapobaaW.PrintMore
attribute [local go_sem] max2_int min2_int max_two min_two max_three min_three max_four min_four
set_option linter.unusedVariables false
set_option linter.unusedSimpArgs false
/-! ### impl_areBars: function 54 -/
def impl_areBars.l0:Nat→List Int→List Int→Int→Int→List (S90)→List (S104)→Option (Bool)
 |0,_,_,_,_,_,_=>none
 |k+1,x1,x7,x8,x9,aB,aA=>if x9<x8 then(if 0≤x9 then(if x9<(x7.length:Int)then((impl_within.f (rd x7 x9) 0 (wrap64 ((aA.length:Int) - 1))).bind fun aC=>(if aC=true then(if x9 > 0 then(if 0≤(wrap64 (x9 - 1))then(if(wrap64 (x9 - 1))<(x1.length:Int)then(if(rd x7 x9)≤(rd x1 (wrap64 (x9 - 1)))then(some false)else(impl_areBars.l0 k x1 x7 x8 (wrap64 (x9+1)) aB aA))else(none))else(none))else(impl_areBars.l0 k x1 x7 x8 (wrap64 (x9+1)) aB aA))else(some false)))else(none))else(none))else(some true)
def impl_areBars.f (k:Nat) (aB:List (S90)) (aA:List (S104)) (l1:List Int):Option (Bool):=impl_areBars.l0 k l1 l1 (l1.length:Int) 0 aB aA
theorem impl_areBars.mono_l: ∀k,(∀y0 y1 y2 y3 y4 y5,LeO (impl_areBars.l0 k y0 y1 y2 y3 y4 y5) (impl_areBars.l0 (k+1) y0 y1 y2 y3 y4 y5))
 |0=>fun _ _ _ _ _ _ r h=>by simp[impl_areBars.l0]at h
 |k+1=>by
  have aA:=impl_areBars.mono_l k
  ·intro y0 y1 y2 y3 y4 y5
   unfold impl_areBars.l0
   repeat' first
   |(with_reducible exact aA _ _ _ _ _ _)
   |(with_reducible exact LeO.refl _)
   |(with_reducible exact LeO.none _)
   |(with_reducible refine LeO.ite ?_ ?_)
   |(with_reducible refine LeO.bind ?_ (fun _=>?_))
   |exact LeO.none _
   |refine LeO.ite ?_ ?_
   |refine LeO.bind ?_ (fun _=>?_)
theorem impl_areBars.mono: ∀a0 a1 a2 k,LeO (impl_areBars.f k a0 a1 a2) (impl_areBars.f (k+1) a0 a1 a2):=by
 intro a0 a1 a2 k
 have aA:=impl_areBars.mono_l k
 unfold impl_areBars.f
 repeat' first
  |(with_reducible exact aA _ _ _ _ _ _)
  |(with_reducible exact LeO.refl _)
  |(with_reducible exact LeO.none _)
  |(with_reducible refine LeO.ite ?_ ?_)
  |(with_reducible refine LeO.bind ?_ (fun _=>?_))
  |exact LeO.none _
  |refine LeO.ite ?_ ?_
  |refine LeO.bind ?_ (fun _=>?_)
set_option maxHeartbeats 8000000 in
set_option maxRecDepth 100000 in
theorem impl_areBars.calls (k:Nat) (aL:Option Addr) (aM:Nat) (aE:List (S90)) (aO:Option Addr) (aQ:Nat) (aD:List (S104)) (A1:Option Addr) (c1:Nat) (l1:List Int) (r:Bool) (w:World) (aX:Kd.C k90 w aL aE.length aE) (aY:aE.length≤aM) (aW:Kd.C k104 w aO aD.length aD) (aV:aD.length≤aQ) (bU:Kd.C (Kd.int .i64) w A1 l1.length l1) (bT:l1.length≤c1) (h:impl_areBars.f k aE aD l1=some r):
 Calls Try.prog 54 #[.agg #[.slice aL aE.length aM,.slice aO aD.length aQ],.slice A1 l1.length c1] w fun e w'=>e= .returned (.bool r)∧Below w.heap.size w w':=by
 have cB:=Try.underlying33;have bW:=A' aX;have cA:=A' aY;clear aX aY;have bX:=A' aW;have bZ:=A' aV;clear aW aV;have bA:=A' bU;have cC:=A' bT;clear bU bT;have HB:=A' (Below.refl w.heap.size w);have H:(impl_areBars.l0 k l1 l1 (l1.length:Int) 0 aE aD)=some r:=h;clear h;have H':=A' H;clear H;go_enter Try.func54,Try.ntmps54;go_wp2_with (first|((with_reducible refine gate_dst (N:=2) rfl ?_);refine box_event ?hg (N:=2) ?hd (cs:=#[.slice aL aE.length aM,.slice aO aD.length aQ]) (t:=33) ?hr ?_;(case hd=>rfl);(case hg=>rfl);(case hr=>first|(go_simp;done)|(go_simp;rfl));intro aG hg w3 hbox hb;have n0_:=A' (W' (qK0 HB.out) hb);have n1_:=A' (hbox);have n2_:=A' ((by rw[hg];exact(V' (qK0 HB.out)):w.heap.size≤aG));have n3_:=A' ((by rw[hg];exact(V' (qK0 HB.out)):w.heap.size≤aG));clear HB;have HB:=n0_;have aB:=n1_;have bY:=n2_;have aK:=n3_;clear n0_ n1_ n2_ n3_;clear hb hbox hg))
 go_loopg [9] k (fun kq v9 w'=>∃(aA:Int),v9= .int .i64 aA∧Aside0 (impl_areBars.l0 kq l1 l1 (l1.length:Int) aA aE aD=some r)∧Aside0 (kq≤k)∧Aside0 (w'.heap[aG]? =some (.cells #[(.slice aL aE.length aM),(.slice aO aD.length aQ)] 33 (0,0)))∧Aside0 (Below w.heap.size w w'))
 case atStart=>exact⟨(0),qS,H',⟨Nat.le_refl _⟩,⟨qB aB.out⟩,⟨qK1 HB.out aK.out⟩⟩
 case round=>
  clear H';try clear c1
  try clear p2
  obtain⟨aA,rfl,HA,bG,aB,HB⟩:=hrel
  cases gk with
  |zero=>exact absurd HA.out (by simp[impl_areBars.l0])
  |succ k1=>
   have H:=HA.out;clear HA;simp only[impl_areBars.l0]at H
   by_cases c4:aA<(l1.length:Int)
   ·rw[if_pos c4]at H;have c4b0:decide (aA<(l1.length:Int))=true:=dT' c4;clear c4
    by_cases c5:0≤aA
    ·rw[if_pos c5]at H;have c5b0:decide (0≤aA)=true:=dT' c5;clear c5
     by_cases c6:aA<(l1.length:Int)
     ·rw[if_pos c6]at H;have c6b0:decide (aA<(l1.length:Int))=true:=dT' c6;clear c6;replace H:=Option.bind_eq_some_iff.mp H;obtain⟨bB,bV,H⟩:=H;replace H:(if bB=true then(if aA > 0 then(if 0≤(wrap64 (aA - 1))then(if(wrap64 (aA - 1))<(l1.length:Int)then(if(rd l1 aA)≤(rd l1 (wrap64 (aA - 1)))then(some false)else(impl_areBars.l0 k1 l1 l1 (l1.length:Int) (wrap64 (aA+1)) aE aD))else(none))else(none))else(impl_areBars.l0 k1 l1 l1 (l1.length:Int) (wrap64 (aA+1)) aE aD))else(some false))=some r:=H;have A7:=A' bV;clear bV
      by_cases c8:bB=true
      ·subst c8;have H1:(if aA > 0 then(if 0≤(wrap64 (aA - 1))then(if(wrap64 (aA - 1))<(l1.length:Int)then(if(rd l1 aA)≤(rd l1 (wrap64 (aA - 1)))then(some false)else(impl_areBars.l0 k1 l1 l1 (l1.length:Int) (wrap64 (aA+1)) aE aD))else(none))else(none))else(impl_areBars.l0 k1 l1 l1 (l1.length:Int) (wrap64 (aA+1)) aE aD))=some r:=by rw[if_pos rfl]at H;exact H
       clear H;have H:=H1;clear H1
       by_cases c9:aA > 0
       ·rw[if_pos c9]at H;have c9b0:decide (0<aA)=true:=dT' c9;clear c9;obtain⟨aF,aP⟩: ∃j_:Int,(wrap64 (aA - 1))=j_:=⟨_,rfl⟩
        replace H:(if 0≤(aF)then(if(aF)<(l1.length:Int)then(if(rd l1 aA)≤(rd l1 (aF))then(some false)else(impl_areBars.l0 k1 l1 l1 (l1.length:Int) (wrap64 (aA+1)) aE aD))else(none))else(none))=some r:=by first|(rw[aP]at H;exact H)|(simp only[aP]at H ⊢;exact H)
        (try rw[aP]at A7);have hji10w:(IntKind.i64.wrap (aA - 1))=aF:=(i64_w _).trans aP
        by_cases c11:0≤(aF)
        ·rw[if_pos c11]at H;have c11b0:decide (0≤(aF))=true:=dT' c11;clear c11
         by_cases c12:(aF)<(l1.length:Int)
         ·rw[if_pos c12]at H;have c12b0:decide ((aF)<(l1.length:Int))=true:=dT' c12;clear c12
          by_cases c13:(rd l1 aA)≤(rd l1 (aF))
          ·rw[if_pos c13]at H;have c13b0:decide ((rd l1 aA)≤(rd l1 (aF)))=true:=dT' c13;clear c13;obtain rfl:=Option.some.inj H;have aH:0≤(aA:Int):=oD' qA;have aI:aA<(l1.length:Int):=oD' qA;obtain⟨aN,aR,aC⟩:=Kd.at_int bA.out aA aH aI
           cases aR
           try replace aC:=qC HB.out aC
           replace aH:=eq_true aH;replace aI:=eq_true aI;have bE:wr.cell? ⟨aG,0,none⟩=some (.slice aL aE.length aM):=(N' aB.out 0).trans rfl;have bS:wr.cell? ⟨aG,1,none⟩=some (.slice aO aD.length aQ):=(N' aB.out 1).trans rfl;have bR:=Y' aB.out 0;have bK:=Y' aB.out 1;go_wp2_with (first|((with_reducible refine gate_callee (f:=81) rfl ?_);refine goesL_ (some 19) rfl rfl Try.func81 (by kernel_rfl) rfl #[.int .i64 (rd l1 aA),.int .i64 0,.int .i64 (wrap64 ((aD.length:Int) - 1))] rfl (by(try simp only[List.map_toArray,List.map_cons,List.map_nil]);first|done|rfl|(simp only[List.length_drop,List.length_take];rfl)) ?_;(with_reducible refine(impl_within.calls (rd l1 aA) 0 (wrap64 ((aD.length:Int) - 1)) true _ A7.out).mono ?_);rintro e w' ⟨rfl,⟨nd,rfl⟩⟩;refine⟨_,rfl,?_⟩;have aS:0≤((aF):Int):=oD' qA;have aT:(aF)<(l1.length:Int):=oD' qA;obtain⟨aU,aZ,aJ⟩:=Kd.at_int bA.out (aF) aS aT;obtain rfl:aN=aU:=(by injection aZ);try replace aJ:=qC HB.out aJ;replace aS:=eq_true aS;replace aT:=eq_true aT));go_ret;exact⟨by first|rfl|(simp[errW_none,errW_some] <;> rfl)|(simp only[← aP];first|rfl|(simp[errW_none,errW_some] <;> rfl))|(simp[*,errW_none,errW_some] <;> rfl),qK1 HB.out aK.out⟩
          ·rw[if_neg c13]at H;have c13b0:decide ((rd l1 aA)≤(rd l1 (aF)))=false:=dF' c13;clear c13;have H':=A' H;clear H;have aH:0≤(aA:Int):=oD' qA;have aI:aA<(l1.length:Int):=oD' qA;obtain⟨aN,aR,aC⟩:=Kd.at_int bA.out aA aH aI
           cases aR
           try replace aC:=qC HB.out aC
           replace aH:=eq_true aH;replace aI:=eq_true aI;have bL:wr.cell? ⟨aG,0,none⟩=some (.slice aL aE.length aM):=(N' aB.out 0).trans rfl;have bQ:wr.cell? ⟨aG,1,none⟩=some (.slice aO aD.length aQ):=(N' aB.out 1).trans rfl;have bJ:=Y' aB.out 0;have bH:=Y' aB.out 1;go_wp2_with (first|((with_reducible refine gate_callee (f:=81) rfl ?_);refine goesL_ (some 19) rfl rfl Try.func81 (by kernel_rfl) rfl #[.int .i64 (rd l1 aA),.int .i64 0,.int .i64 (wrap64 ((aD.length:Int) - 1))] rfl (by(try simp only[List.map_toArray,List.map_cons,List.map_nil]);first|done|rfl|(simp only[List.length_drop,List.length_take];rfl)) ?_;(with_reducible refine(impl_within.calls (rd l1 aA) 0 (wrap64 ((aD.length:Int) - 1)) true _ A7.out).mono ?_);rintro e w' ⟨rfl,⟨nd,rfl⟩⟩;refine⟨_,rfl,?_⟩;have aS:0≤((aF):Int):=oD' qA;have aT:(aF)<(l1.length:Int):=oD' qA;obtain⟨aU,aZ,aJ⟩:=Kd.at_int bA.out (aF) aS aT;obtain rfl:aN=aU:=(by injection aZ);try replace aJ:=qC HB.out aJ;replace aS:=eq_true aS;replace aT:=eq_true aT))
           go_roundg k1
           case measure=>have:=bG.out;omega
           case rel=>exact⟨(wrap64 (aA+1)),qS,H',⟨by have:=bG.out;omega⟩,⟨qB aB.out⟩,⟨qK1 HB.out aK.out⟩⟩
         ·rw[if_neg c12]at H;exact absurd H (by simp)
        ·rw[if_neg c11]at H;exact absurd H (by simp)
       ·rw[if_neg c9]at H;have c9b0:decide (0<aA)=false:=dF' c9;clear c9;have H':=A' H;clear H;have aH:0≤(aA:Int):=oD' qA;have aI:aA<(l1.length:Int):=oD' qA;obtain⟨aN,aR,aC⟩:=Kd.at_int bA.out aA aH aI
        cases aR
        try replace aC:=qC HB.out aC
        replace aH:=eq_true aH;replace aI:=eq_true aI;have bI:wr.cell? ⟨aG,0,none⟩=some (.slice aL aE.length aM):=(N' aB.out 0).trans rfl;have bM:wr.cell? ⟨aG,1,none⟩=some (.slice aO aD.length aQ):=(N' aB.out 1).trans rfl;have bP:=Y' aB.out 0;have bO:=Y' aB.out 1;go_wp2_with (first|((with_reducible refine gate_callee (f:=81) rfl ?_);refine goesL_ (some 19) rfl rfl Try.func81 (by kernel_rfl) rfl #[.int .i64 (rd l1 aA),.int .i64 0,.int .i64 (wrap64 ((aD.length:Int) - 1))] rfl (by(try simp only[List.map_toArray,List.map_cons,List.map_nil]);first|done|rfl|(simp only[List.length_drop,List.length_take];rfl)) ?_;(with_reducible refine(impl_within.calls (rd l1 aA) 0 (wrap64 ((aD.length:Int) - 1)) true _ A7.out).mono ?_);rintro e w' ⟨rfl,⟨nd,rfl⟩⟩;refine⟨_,rfl,?_⟩))
        go_roundg k1
        case measure=>have:=bG.out;omega
        case rel=>exact⟨(wrap64 (aA+1)),qS,H',⟨by have:=bG.out;omega⟩,⟨qB aB.out⟩,⟨qK1 HB.out aK.out⟩⟩
      ·replace c8:=Bool.eq_false_iff.mpr c8;subst c8;have H1:(some false)=some r:=by rw[if_neg (show¬(false=true) by decide)]at H;exact H
       clear H;have H:=H1;clear H1;obtain rfl:=Option.some.inj H;have aH:0≤(aA:Int):=oD' qA;have aI:aA<(l1.length:Int):=oD' qA;obtain⟨aN,aR,aC⟩:=Kd.at_int bA.out aA aH aI
       cases aR
       try replace aC:=qC HB.out aC
       replace aH:=eq_true aH;replace aI:=eq_true aI;have bF:wr.cell? ⟨aG,0,none⟩=some (.slice aL aE.length aM):=(N' aB.out 0).trans rfl;have bC:wr.cell? ⟨aG,1,none⟩=some (.slice aO aD.length aQ):=(N' aB.out 1).trans rfl;have bN:=Y' aB.out 0;have bD:=Y' aB.out 1;go_wp2_with (first|((with_reducible refine gate_callee (f:=81) rfl ?_);refine goesL_ (some 19) rfl rfl Try.func81 (by kernel_rfl) rfl #[.int .i64 (rd l1 aA),.int .i64 0,.int .i64 (wrap64 ((aD.length:Int) - 1))] rfl (by(try simp only[List.map_toArray,List.map_cons,List.map_nil]);first|done|rfl|(simp only[List.length_drop,List.length_take];rfl)) ?_;(with_reducible refine(impl_within.calls (rd l1 aA) 0 (wrap64 ((aD.length:Int) - 1)) false _ A7.out).mono ?_);rintro e w' ⟨rfl,⟨nd,rfl⟩⟩;refine⟨_,rfl,?_⟩));go_ret;exact⟨qE,qK1 HB.out aK.out⟩
     ·rw[if_neg c6]at H;exact absurd H (by simp)
    ·rw[if_neg c5]at H;exact absurd H (by simp)
   ·rw[if_neg c4]at H;have c4b0:decide (aA<(l1.length:Int))=false:=dF' c4;clear c4;obtain rfl:=Option.some.inj H;go_wp2;go_ret;exact⟨qE,qK1 HB.out aK.out⟩
/-! ### impl_gcd: function 88 -/
mutual
def impl_gcd.j0:Nat→Int→Int→Option (Int)
 |0,_,_=>none
 |k+1,x0,x1=>impl_gcd.l0 k x0 x1
def impl_gcd.l0:Nat→Int→Int→Option (Int)
 |0,_,_=>none
 |k+1,x0,x1=>if x1=0 then(some x0)else(impl_gcd.l0 k x1 (Int.tmod x0 x1))
end
def impl_gcd.f (k:Nat) (a0:Int) (a1:Int):Option (Int):=if a0<0 then(impl_gcd.j0 k (wrap64 (-a0)) a1)else(impl_gcd.j0 k a0 a1)
theorem impl_gcd.mono_l: ∀k,(∀y0 y1,LeO (impl_gcd.j0 k y0 y1) (impl_gcd.j0 (k+1) y0 y1))∧(∀y0 y1,LeO (impl_gcd.l0 k y0 y1) (impl_gcd.l0 (k+1) y0 y1))
 |0=>⟨fun _ _ r h=>by simp[impl_gcd.j0]at h,fun _ _ r h=>by simp[impl_gcd.l0]at h⟩
 |k+1=>by
  obtain⟨aA,aB⟩:=impl_gcd.mono_l k
  refine⟨?_,?_⟩
  ·intro y0 y1
   unfold impl_gcd.j0
   repeat' first
   |(with_reducible exact aA _ _)
   |(with_reducible exact aB _ _)
   |(with_reducible exact LeO.refl _)
   |(with_reducible exact LeO.none _)
   |(with_reducible refine LeO.ite ?_ ?_)
   |(with_reducible refine LeO.bind ?_ (fun _=>?_))
   |exact LeO.none _
   |refine LeO.ite ?_ ?_
   |refine LeO.bind ?_ (fun _=>?_)
  ·intro y0 y1
   unfold impl_gcd.l0
   repeat' first
   |(with_reducible exact aA _ _)
   |(with_reducible exact aB _ _)
   |(with_reducible exact LeO.refl _)
   |(with_reducible exact LeO.none _)
   |(with_reducible refine LeO.ite ?_ ?_)
   |(with_reducible refine LeO.bind ?_ (fun _=>?_))
   |exact LeO.none _
   |refine LeO.ite ?_ ?_
   |refine LeO.bind ?_ (fun _=>?_)
theorem impl_gcd.mono: ∀a0 a1 k,LeO (impl_gcd.f k a0 a1) (impl_gcd.f (k+1) a0 a1):=by
 intro a0 a1 k
 obtain⟨aA,aB⟩:=impl_gcd.mono_l k
 unfold impl_gcd.f
 repeat' first
  |(with_reducible exact aA _ _)
  |(with_reducible exact aB _ _)
  |(with_reducible exact LeO.refl _)
  |(with_reducible exact LeO.none _)
  |(with_reducible refine LeO.ite ?_ ?_)
  |(with_reducible refine LeO.bind ?_ (fun _=>?_))
  |exact LeO.none _
  |refine LeO.ite ?_ ?_
  |refine LeO.bind ?_ (fun _=>?_)
set_option maxHeartbeats 8000000 in
set_option maxRecDepth 100000 in
theorem impl_gcd.calls (k:Nat) (a0:Int) (a1:Int) (r:Int) (w:World) (h:impl_gcd.f k a0 a1=some r):
 Calls Try.prog 88 #[.int .i64 a0,.int .i64 a1] w fun e w'=>e= .returned (.int .i64 r)∧Drawn0 w w':=by
 have H:(if a0<0 then(impl_gcd.j0 k (wrap64 (-a0)) a1)else(impl_gcd.j0 k a0 a1))=some r:=h;clear h;have aC:=A' H;clear H;go_enter Try.func88,Try.ntmps88;go_upto_if 6 with (fail)
 repeat(go_quiet (fail);go_upto_if 6 with (fail))
 go_cut [0] (fun v0 wc=>∃(kq:Nat) (aB:Int),v0= .int .i64 aB∧Aside0 (impl_gcd.j0 kq aB a1=some r)∧Aside0 (kq≤k)∧Drawn0 w wc)
 case first=>
  have H:=aC.out;clear aC
  by_cases c4:a0<0
  ·rw[if_pos c4]at H;have c4b0:decide (a0<0)=true:=dT' c4;clear c4;(first|rw[c4b0]|(simp only[i64_w,i32_w];rw[c4b0])|skip);have H':=A' H;clear H;go_wp2
   repeat(go_quiet (fail);try go_wp2)
   go_meet
   case rel=>exact⟨_,(wrap64 (-a0)),qS,H',⟨by first|omega|exact Nat.le_refl _⟩,by repeat(first|exact Drawn0.refl _|apply Drawn0.step)⟩
  ·rw[if_neg c4]at H;have c4b0:decide (a0<0)=false:=dF' c4;clear c4;(first|rw[c4b0]|(simp only[i64_w,i32_w];rw[c4b0])|skip);have H':=A' H;clear H;go_wp2
   repeat(go_quiet (fail);try go_wp2)
   go_meet
   case rel=>exact⟨_,(a0),qS,H',⟨by first|omega|exact Nat.le_refl _⟩,by repeat(first|exact Drawn0.refl _|apply Drawn0.step)⟩
 case rest=>
  clear aC;try clear p2
  try clear c4
  try clear c4b0
  obtain⟨kq,aB,rfl,HA,aF,⟨aG,rfl⟩⟩:=hcut
  cases kq with
  |zero=>exact absurd HA.out (by simp[impl_gcd.j0])
  |succ aE=>
   have H:=HA.out;clear HA;simp only[impl_gcd.j0]at H;have H':=A' H;clear H;go_wp2
   repeat(go_quiet (fail);try go_wp2)
   go_loopg [0,1] aE (fun kq v0 v1 w'=>∃(aB:Int) (aA:Int),v0= .int .i64 aB∧v1= .int .i64 aA∧Aside0 (impl_gcd.l0 kq aB aA=some r)∧Aside0 (kq≤aE)∧Drawn0 w w')
   case atStart=>exact⟨(aB),(a1),qS,qS,H',⟨Nat.le_refl _⟩,by repeat(first|exact Drawn0.refl _|apply Drawn0.step)⟩
   case round=>
    clear H';try clear c2
    try clear p2
    try clear c4
    try clear c4b0
    try clear p2
    obtain⟨aB,aA,rfl,rfl,HA,aD,⟨m2,rfl⟩⟩:=hrel
    cases gk with
    |zero=>exact absurd HA.out (by simp[impl_gcd.l0])
    |succ k2=>
     have H:=HA.out;clear HA;simp only[impl_gcd.l0]at H
     by_cases c5:aA=0
     ·rw[if_pos c5]at H;have c5b0:(aA == 0)=true:=beq_iff_eq.mpr c5;have c5b1:(aA != 0)=false:=bne_eq_false_iff_eq.mpr c5;clear c5;obtain rfl:=Option.some.inj H;go_wp2
      repeat(go_quiet (fail);try go_wp2)
      go_ret;exact⟨by first|rfl|(simp;done)|(simp[*];done),by repeat(first|exact Drawn0.refl _|apply Drawn0.step)⟩
     ·rw[if_neg c5]at H;have c5b0:(aA == 0)=false:=beq_eq_false_iff_ne.mpr c5;have c5b1:(aA != 0)=true:=bne_iff_ne.mpr c5;have H':=A' H;clear H;go_wp2
      repeat(go_quiet (fail);try go_wp2)
      go_roundg k2
      case measure=>have:=aF.out;have:=aD.out;omega
      case rel=>exact⟨(aA),(Int.tmod aB aA),qS,qS,H',⟨by have:=aF.out;have:=aD.out;omega⟩,by repeat(first|exact Drawn0.refl _|apply Drawn0.step)⟩
/-! ### impl_pullOf: function 71 -/
def impl_pullOf.f (aA:List (S90)) (aE:List (S104)) (aB:Int) (aC:Int) (aD:Bool) (a2:Int):Option (Int×Int):=if 0≤aC then(if aC<(aA.length:Int)then(if 0≤aB then(if aB<(aA.length:Int)then(if a2=aB then(some (wrap64 (((rd_T90 aA aC).f0) - ((rd_T90 aA aB).f0)),wrap64 (((rd_T90 aA aC).f1) - ((rd_T90 aA aB).f1))))else(if a2=aC then(some (wrap64 (-(wrap64 (((rd_T90 aA aC).f0) - ((rd_T90 aA aB).f0)))),wrap64 (-(wrap64 (((rd_T90 aA aC).f1) - ((rd_T90 aA aB).f1))))))else(some (0,0))))else(none))else(none))else(none))else(none)
set_option maxHeartbeats 8000000 in
set_option maxRecDepth 100000 in
theorem impl_pullOf.calls (bM:Option Addr) (bN:Nat) (aG:List (S90)) (bL:Option Addr) (bO:Nat) (bJ:List (S104)) (aF:Int) (aE:Int) (bK:Bool) (a2:Int) (r1:Int) (r2:Int) (w:World) (dH:Kd.C k90 w bM aG.length aG) (dM:aG.length≤bN) (dF:Kd.C k104 w bL bJ.length bJ) (dE:bJ.length≤bO) (h:impl_pullOf.f aG bJ aF aE bK a2=some (r1,r2)):
 Calls Try.prog 71 #[.agg #[.slice bM aG.length bN,.slice bL bJ.length bO],.agg #[.int .i64 aF,.int .i64 aE,.bool bK],.int .i64 a2] w fun e w'=>e= .returned (.tuple #[.int .i64 r1,.int .i64 r2])∧Below w.heap.size w w':=by
 have dT:=Try.underlying33;have dN:=Try.underlying104;have aW:=A' dH;have dP:=A' dM;clear dH dM;have dR:=A' dF;have dS:=A' dE;clear dF dE;have HB:=A' (Below.refl w.heap.size w);have H:(if 0≤aE then(if aE<(aG.length:Int)then(if 0≤aF then(if aF<(aG.length:Int)then(if a2=aF then(some (wrap64 (((rd_T90 aG aE).f0) - ((rd_T90 aG aF).f0)),wrap64 (((rd_T90 aG aE).f1) - ((rd_T90 aG aF).f1))))else(if a2=aE then(some (wrap64 (-(wrap64 (((rd_T90 aG aE).f0) - ((rd_T90 aG aF).f0)))),wrap64 (-(wrap64 (((rd_T90 aG aE).f1) - ((rd_T90 aG aF).f1))))))else(some (0,0))))else(none))else(none))else(none))else(none))=some (r1,r2):=h;clear h
 by_cases c4:0≤aE
 ·rw[if_pos c4]at H;have c4b0:decide (0≤aE)=true:=dT' c4;clear c4
  by_cases c5:aE<(aG.length:Int)
  ·rw[if_pos c5]at H;have c5b0:decide (aE<(aG.length:Int))=true:=dT' c5;clear c5
   by_cases c6:0≤aF
   ·rw[if_pos c6]at H;have c6b0:decide (0≤aF)=true:=dT' c6;clear c6
    by_cases c7:aF<(aG.length:Int)
    ·rw[if_pos c7]at H;have c7b0:decide (aF<(aG.length:Int))=true:=dT' c7;clear c7
     by_cases c8:a2=aF
     ·rw[if_pos c8]at H;have c8b0:(a2 == aF)=true:=beq_iff_eq.mpr c8;have c8b1:(a2 != aF)=false:=bne_eq_false_iff_eq.mpr c8;clear c8;simp only[Option.some.injEq,Prod.mk.injEq]at H;obtain⟨rfl,rfl⟩:=H;go_enter Try.func71,Try.ntmps71;go_wp2_with (first|((with_reducible refine gate_dst (N:=3) rfl ?_);refine box_event ?hg (N:=3) ?hd (cs:=#[.slice bM aG.length bN,.slice bL bJ.length bO]) (t:=33) ?hr ?_;(case hd=>rfl);(case hg=>rfl);(case hr=>first|(go_simp;done)|(go_simp;rfl));intro aB hg w9 hbox hb;have n0_:=A' (W' (qK0 HB.out) hb);have n1_:=A' (hbox);have n2_:=A' ((by rw[hg];exact(V' (qK0 HB.out)):w.heap.size≤aB));have n3_:=A' ((by rw[hg];exact(V' (qK0 HB.out)):w.heap.size≤aB));clear HB;have HB:=n0_;have aA:=n1_;have bU:=n2_;have aV:=n3_;clear n0_ n1_ n2_ n3_;clear hb hbox hg)|((with_reducible refine gate_dst (N:=4) rfl ?_);refine box_event ?hg (N:=4) ?hd (cs:=#[.int .i64 aF,.int .i64 aE,.bool bK]) (t:=104) ?hr ?_;(case hd=>rfl);(case hg=>rfl);(case hr=>first|(go_simp;done)|(go_simp;rfl));intro aC hg bY hbox hb;have n0_:=A' (O' (g:=aB) (qB aA.out) hb);have n1_:=A' (W' (qK1 HB.out aV.out) hb);have n2_:=A' (hbox);have n3_:=A' ((by rw[hg];exact(V' (qK1 HB.out aV.out)):w.heap.size≤aC));have n4_:=A' ((by rw[hg];exact(V' (qK1 HB.out aV.out)):w.heap.size≤aC));have n5_:=A' ((by rw[hg];exact Nat.ne_of_lt (bL' (g:=aB) (qB aA.out)):aB≠aC));have n6_:=A' ((by rw[hg];exact Nat.ne_of_gt (bL' (g:=aB) (qB aA.out)):aC≠aB));clear aA;clear HB;have aA:=n0_;have HB:=n1_;have aD:=n2_;have bV:=n3_;have bP:=n4_;have aU:=n5_;have aT:=n6_;clear n0_ n1_ n2_ n3_ n4_ n5_ n6_;clear hb hbox hg;have dL:=aU.out;have dJ:=aT.out;have dA:bY.cell? ⟨aB,0,none⟩=some (.slice bM aG.length bN):=(N' aA.out 0).trans rfl;have cK:bY.cell? ⟨aB,1,none⟩=some (.slice bL bJ.length bO):=(N' aA.out 1).trans rfl;have cJ:=Y' aA.out 0;have cH:=Y' aA.out 1;have cT:bY.cell? ⟨aC,0,none⟩=some (.int .i64 aF):=(N' aD.out 0).trans rfl;have cG:bY.cell? ⟨aC,1,none⟩=some (.int .i64 aE):=(N' aD.out 1).trans rfl;have cX:bY.cell? ⟨aC,2,none⟩=some (.bool bK):=(N' aD.out 2).trans rfl;have cO:=Y' aD.out 0;have cB:=Y' aD.out 1;have bZ:=Y' aD.out 2;have bF:0≤(aE:Int):=oD' qA;have bC:aE<(aG.length:Int):=oD' qA;obtain⟨aX,bT,aI,aP,aK⟩:=at_T90 aW.out aE bF bC;cases bT;try replace aI:=qC HB.out aI;try replace aP:=qC HB.out aP;try replace aK:=qC HB.out aK;replace bF:=eq_true bF;replace bC:=eq_true bC;have aZ:0≤(aF:Int):=oD' qA;have bA:aF<(aG.length:Int):=oD' qA;obtain⟨bG,bQ,aL,aM,aR⟩:=at_T90 aW.out aF aZ bA;obtain rfl:aX=bG:=(by injection bQ);try replace aL:=qC HB.out aL;try replace aM:=qC HB.out aM;try replace aR:=qC HB.out aR;replace aZ:=eq_true aZ;replace bA:=eq_true bA;have bE:0≤(aE:Int):=oD' qA;have aY:aE<(aG.length:Int):=oD' qA;obtain⟨bI,bS,aN,aS,aQ⟩:=at_T90 aW.out aE bE aY;obtain rfl:aX=bI:=(by injection bS);try replace aN:=qC HB.out aN;try replace aS:=qC HB.out aS;try replace aQ:=qC HB.out aQ;replace bE:=eq_true bE;replace aY:=eq_true aY;have bD:0≤(aF:Int):=oD' qA;have bB:aF<(aG.length:Int):=oD' qA;obtain⟨bH,bR,aO,aJ,aH⟩:=at_T90 aW.out aF bD bB;obtain rfl:aX=bH:=(by injection bR);try replace aO:=qC HB.out aO;try replace aJ:=qC HB.out aJ;try replace aH:=qC HB.out aH;replace bD:=eq_true bD;replace bB:=eq_true bB))
      repeat(go_quiet (first|((with_reducible refine gate_dst (N:=3) rfl ?_);refine box_event ?hg (N:=3) ?hd (cs:=#[.slice bM aG.length bN,.slice bL bJ.length bO]) (t:=33) ?hr ?_;(case hd=>rfl);(case hg=>rfl);(case hr=>first|(go_simp;done)|(go_simp;rfl));intro aB hg w9 hbox hb;have n0_:=A' (W' (qK0 HB.out) hb);have n1_:=A' (hbox);have n2_:=A' ((by rw[hg];exact(V' (qK0 HB.out)):w.heap.size≤aB));have n3_:=A' ((by rw[hg];exact(V' (qK0 HB.out)):w.heap.size≤aB));clear HB;have HB:=n0_;have aA:=n1_;have bU:=n2_;have aV:=n3_;clear n0_ n1_ n2_ n3_;clear hb hbox hg)|((with_reducible refine gate_dst (N:=4) rfl ?_);refine box_event ?hg (N:=4) ?hd (cs:=#[.int .i64 aF,.int .i64 aE,.bool bK]) (t:=104) ?hr ?_;(case hd=>rfl);(case hg=>rfl);(case hr=>first|(go_simp;done)|(go_simp;rfl));intro aC hg bY hbox hb;have n0_:=A' (O' (g:=aB) (qB aA.out) hb);have n1_:=A' (W' (qK1 HB.out aV.out) hb);have n2_:=A' (hbox);have n3_:=A' ((by rw[hg];exact(V' (qK1 HB.out aV.out)):w.heap.size≤aC));have n4_:=A' ((by rw[hg];exact(V' (qK1 HB.out aV.out)):w.heap.size≤aC));have n5_:=A' ((by rw[hg];exact Nat.ne_of_lt (bL' (g:=aB) (qB aA.out)):aB≠aC));have n6_:=A' ((by rw[hg];exact Nat.ne_of_gt (bL' (g:=aB) (qB aA.out)):aC≠aB));clear aA;clear HB;have aA:=n0_;have HB:=n1_;have aD:=n2_;have bV:=n3_;have bP:=n4_;have aU:=n5_;have aT:=n6_;clear n0_ n1_ n2_ n3_ n4_ n5_ n6_;clear hb hbox hg;have dL:=aU.out;have dJ:=aT.out;have dA:bY.cell? ⟨aB,0,none⟩=some (.slice bM aG.length bN):=(N' aA.out 0).trans rfl;have cK:bY.cell? ⟨aB,1,none⟩=some (.slice bL bJ.length bO):=(N' aA.out 1).trans rfl;have cJ:=Y' aA.out 0;have cH:=Y' aA.out 1;have cT:bY.cell? ⟨aC,0,none⟩=some (.int .i64 aF):=(N' aD.out 0).trans rfl;have cG:bY.cell? ⟨aC,1,none⟩=some (.int .i64 aE):=(N' aD.out 1).trans rfl;have cX:bY.cell? ⟨aC,2,none⟩=some (.bool bK):=(N' aD.out 2).trans rfl;have cO:=Y' aD.out 0;have cB:=Y' aD.out 1;have bZ:=Y' aD.out 2;have bF:0≤(aE:Int):=oD' qA;have bC:aE<(aG.length:Int):=oD' qA;obtain⟨aX,bT,aI,aP,aK⟩:=at_T90 aW.out aE bF bC;cases bT;try replace aI:=qC HB.out aI;try replace aP:=qC HB.out aP;try replace aK:=qC HB.out aK;replace bF:=eq_true bF;replace bC:=eq_true bC;have aZ:0≤(aF:Int):=oD' qA;have bA:aF<(aG.length:Int):=oD' qA;obtain⟨bG,bQ,aL,aM,aR⟩:=at_T90 aW.out aF aZ bA;obtain rfl:aX=bG:=(by injection bQ);try replace aL:=qC HB.out aL;try replace aM:=qC HB.out aM;try replace aR:=qC HB.out aR;replace aZ:=eq_true aZ;replace bA:=eq_true bA;have bE:0≤(aE:Int):=oD' qA;have aY:aE<(aG.length:Int):=oD' qA;obtain⟨bI,bS,aN,aS,aQ⟩:=at_T90 aW.out aE bE aY;obtain rfl:aX=bI:=(by injection bS);try replace aN:=qC HB.out aN;try replace aS:=qC HB.out aS;try replace aQ:=qC HB.out aQ;replace bE:=eq_true bE;replace aY:=eq_true aY;have bD:0≤(aF:Int):=oD' qA;have bB:aF<(aG.length:Int):=oD' qA;obtain⟨bH,bR,aO,aJ,aH⟩:=at_T90 aW.out aF bD bB;obtain rfl:aX=bH:=(by injection bR);try replace aO:=qC HB.out aO;try replace aJ:=qC HB.out aJ;try replace aH:=qC HB.out aH;replace bD:=eq_true bD;replace bB:=eq_true bB));try go_wp2_with (first|((with_reducible refine gate_dst (N:=3) rfl ?_);refine box_event ?hg (N:=3) ?hd (cs:=#[.slice bM aG.length bN,.slice bL bJ.length bO]) (t:=33) ?hr ?_;(case hd=>rfl);(case hg=>rfl);(case hr=>first|(go_simp;done)|(go_simp;rfl));intro aB hg w9 hbox hb;have n0_:=A' (W' (qK0 HB.out) hb);have n1_:=A' (hbox);have n2_:=A' ((by rw[hg];exact(V' (qK0 HB.out)):w.heap.size≤aB));have n3_:=A' ((by rw[hg];exact(V' (qK0 HB.out)):w.heap.size≤aB));clear HB;have HB:=n0_;have aA:=n1_;have bU:=n2_;have aV:=n3_;clear n0_ n1_ n2_ n3_;clear hb hbox hg)|((with_reducible refine gate_dst (N:=4) rfl ?_);refine box_event ?hg (N:=4) ?hd (cs:=#[.int .i64 aF,.int .i64 aE,.bool bK]) (t:=104) ?hr ?_;(case hd=>rfl);(case hg=>rfl);(case hr=>first|(go_simp;done)|(go_simp;rfl));intro aC hg bY hbox hb;have n0_:=A' (O' (g:=aB) (qB aA.out) hb);have n1_:=A' (W' (qK1 HB.out aV.out) hb);have n2_:=A' (hbox);have n3_:=A' ((by rw[hg];exact(V' (qK1 HB.out aV.out)):w.heap.size≤aC));have n4_:=A' ((by rw[hg];exact(V' (qK1 HB.out aV.out)):w.heap.size≤aC));have n5_:=A' ((by rw[hg];exact Nat.ne_of_lt (bL' (g:=aB) (qB aA.out)):aB≠aC));have n6_:=A' ((by rw[hg];exact Nat.ne_of_gt (bL' (g:=aB) (qB aA.out)):aC≠aB));clear aA;clear HB;have aA:=n0_;have HB:=n1_;have aD:=n2_;have bV:=n3_;have bP:=n4_;have aU:=n5_;have aT:=n6_;clear n0_ n1_ n2_ n3_ n4_ n5_ n6_;clear hb hbox hg;have dL:=aU.out;have dJ:=aT.out;have dA:bY.cell? ⟨aB,0,none⟩=some (.slice bM aG.length bN):=(N' aA.out 0).trans rfl;have cK:bY.cell? ⟨aB,1,none⟩=some (.slice bL bJ.length bO):=(N' aA.out 1).trans rfl;have cJ:=Y' aA.out 0;have cH:=Y' aA.out 1;have cT:bY.cell? ⟨aC,0,none⟩=some (.int .i64 aF):=(N' aD.out 0).trans rfl;have cG:bY.cell? ⟨aC,1,none⟩=some (.int .i64 aE):=(N' aD.out 1).trans rfl;have cX:bY.cell? ⟨aC,2,none⟩=some (.bool bK):=(N' aD.out 2).trans rfl;have cO:=Y' aD.out 0;have cB:=Y' aD.out 1;have bZ:=Y' aD.out 2;have bF:0≤(aE:Int):=oD' qA;have bC:aE<(aG.length:Int):=oD' qA;obtain⟨aX,bT,aI,aP,aK⟩:=at_T90 aW.out aE bF bC;cases bT;try replace aI:=qC HB.out aI;try replace aP:=qC HB.out aP;try replace aK:=qC HB.out aK;replace bF:=eq_true bF;replace bC:=eq_true bC;have aZ:0≤(aF:Int):=oD' qA;have bA:aF<(aG.length:Int):=oD' qA;obtain⟨bG,bQ,aL,aM,aR⟩:=at_T90 aW.out aF aZ bA;obtain rfl:aX=bG:=(by injection bQ);try replace aL:=qC HB.out aL;try replace aM:=qC HB.out aM;try replace aR:=qC HB.out aR;replace aZ:=eq_true aZ;replace bA:=eq_true bA;have bE:0≤(aE:Int):=oD' qA;have aY:aE<(aG.length:Int):=oD' qA;obtain⟨bI,bS,aN,aS,aQ⟩:=at_T90 aW.out aE bE aY;obtain rfl:aX=bI:=(by injection bS);try replace aN:=qC HB.out aN;try replace aS:=qC HB.out aS;try replace aQ:=qC HB.out aQ;replace bE:=eq_true bE;replace aY:=eq_true aY;have bD:0≤(aF:Int):=oD' qA;have bB:aF<(aG.length:Int):=oD' qA;obtain⟨bH,bR,aO,aJ,aH⟩:=at_T90 aW.out aF bD bB;obtain rfl:aX=bH:=(by injection bR);try replace aO:=qC HB.out aO;try replace aJ:=qC HB.out aJ;try replace aH:=qC HB.out aH;replace bD:=eq_true bD;replace bB:=eq_true bB)))
      go_ret2;exact⟨qE,qK2 HB.out aV.out bP.out⟩
     ·rw[if_neg c8]at H;have c8b0:(a2 == aF)=false:=beq_eq_false_iff_ne.mpr c8;have c8b1:(a2 != aF)=true:=bne_iff_ne.mpr c8
      by_cases c14:a2=aE
      ·rw[if_pos c14]at H;have c14b0:(a2 == aE)=true:=beq_iff_eq.mpr c14;have c14b1:(a2 != aE)=false:=bne_eq_false_iff_eq.mpr c14;clear c14;simp only[Option.some.injEq,Prod.mk.injEq]at H;obtain⟨rfl,rfl⟩:=H;go_enter Try.func71,Try.ntmps71;go_wp2_with (first|((with_reducible refine gate_dst (N:=3) rfl ?_);refine box_event ?hg (N:=3) ?hd (cs:=#[.slice bM aG.length bN,.slice bL bJ.length bO]) (t:=33) ?hr ?_;(case hd=>rfl);(case hg=>rfl);(case hr=>first|(go_simp;done)|(go_simp;rfl));intro aB hg dO hbox hb;have n0_:=A' (W' (qK0 HB.out) hb);have n1_:=A' (hbox);have n2_:=A' ((by rw[hg];exact(V' (qK0 HB.out)):w.heap.size≤aB));have n3_:=A' ((by rw[hg];exact(V' (qK0 HB.out)):w.heap.size≤aB));clear HB;have HB:=n0_;have aA:=n1_;have bU:=n2_;have aV:=n3_;clear n0_ n1_ n2_ n3_;clear hb hbox hg)|((with_reducible refine gate_dst (N:=4) rfl ?_);refine box_event ?hg (N:=4) ?hd (cs:=#[.int .i64 aF,.int .i64 aE,.bool bK]) (t:=104) ?hr ?_;(case hd=>rfl);(case hg=>rfl);(case hr=>first|(go_simp;done)|(go_simp;rfl));intro aC hg bW hbox hb;have n0_:=A' (O' (g:=aB) (qB aA.out) hb);have n1_:=A' (W' (qK1 HB.out aV.out) hb);have n2_:=A' (hbox);have n3_:=A' ((by rw[hg];exact(V' (qK1 HB.out aV.out)):w.heap.size≤aC));have n4_:=A' ((by rw[hg];exact(V' (qK1 HB.out aV.out)):w.heap.size≤aC));have n5_:=A' ((by rw[hg];exact Nat.ne_of_lt (bL' (g:=aB) (qB aA.out)):aB≠aC));have n6_:=A' ((by rw[hg];exact Nat.ne_of_gt (bL' (g:=aB) (qB aA.out)):aC≠aB));clear aA;clear HB;have aA:=n0_;have HB:=n1_;have aD:=n2_;have bV:=n3_;have bP:=n4_;have aU:=n5_;have aT:=n6_;clear n0_ n1_ n2_ n3_ n4_ n5_ n6_;clear hb hbox hg;have dK:=aU.out;have dG:=aT.out;have cL:bW.cell? ⟨aB,0,none⟩=some (.slice bM aG.length bN):=(N' aA.out 0).trans rfl;have cU:bW.cell? ⟨aB,1,none⟩=some (.slice bL bJ.length bO):=(N' aA.out 1).trans rfl;have cP:=Y' aA.out 0;have cZ:=Y' aA.out 1;have cE:bW.cell? ⟨aC,0,none⟩=some (.int .i64 aF):=(N' aD.out 0).trans rfl;have cF:bW.cell? ⟨aC,1,none⟩=some (.int .i64 aE):=(N' aD.out 1).trans rfl;have cC:bW.cell? ⟨aC,2,none⟩=some (.bool bK):=(N' aD.out 2).trans rfl;have cN:=Y' aD.out 0;have cD:=Y' aD.out 1;have cM:=Y' aD.out 2;have bF:0≤(aE:Int):=oD' qA;have bC:aE<(aG.length:Int):=oD' qA;obtain⟨aX,bT,aI,aP,aK⟩:=at_T90 aW.out aE bF bC;cases bT;try replace aI:=qC HB.out aI;try replace aP:=qC HB.out aP;try replace aK:=qC HB.out aK;replace bF:=eq_true bF;replace bC:=eq_true bC;have aZ:0≤(aF:Int):=oD' qA;have bA:aF<(aG.length:Int):=oD' qA;obtain⟨bG,bQ,aL,aM,aR⟩:=at_T90 aW.out aF aZ bA;obtain rfl:aX=bG:=(by injection bQ);try replace aL:=qC HB.out aL;try replace aM:=qC HB.out aM;try replace aR:=qC HB.out aR;replace aZ:=eq_true aZ;replace bA:=eq_true bA;have bE:0≤(aE:Int):=oD' qA;have aY:aE<(aG.length:Int):=oD' qA;obtain⟨bI,bS,aN,aS,aQ⟩:=at_T90 aW.out aE bE aY;obtain rfl:aX=bI:=(by injection bS);try replace aN:=qC HB.out aN;try replace aS:=qC HB.out aS;try replace aQ:=qC HB.out aQ;replace bE:=eq_true bE;replace aY:=eq_true aY;have bD:0≤(aF:Int):=oD' qA;have bB:aF<(aG.length:Int):=oD' qA;obtain⟨bH,bR,aO,aJ,aH⟩:=at_T90 aW.out aF bD bB;obtain rfl:aX=bH:=(by injection bR);try replace aO:=qC HB.out aO;try replace aJ:=qC HB.out aJ;try replace aH:=qC HB.out aH;replace bD:=eq_true bD;replace bB:=eq_true bB))
       repeat(go_quiet (first|((with_reducible refine gate_dst (N:=3) rfl ?_);refine box_event ?hg (N:=3) ?hd (cs:=#[.slice bM aG.length bN,.slice bL bJ.length bO]) (t:=33) ?hr ?_;(case hd=>rfl);(case hg=>rfl);(case hr=>first|(go_simp;done)|(go_simp;rfl));intro aB hg dO hbox hb;have n0_:=A' (W' (qK0 HB.out) hb);have n1_:=A' (hbox);have n2_:=A' ((by rw[hg];exact(V' (qK0 HB.out)):w.heap.size≤aB));have n3_:=A' ((by rw[hg];exact(V' (qK0 HB.out)):w.heap.size≤aB));clear HB;have HB:=n0_;have aA:=n1_;have bU:=n2_;have aV:=n3_;clear n0_ n1_ n2_ n3_;clear hb hbox hg)|((with_reducible refine gate_dst (N:=4) rfl ?_);refine box_event ?hg (N:=4) ?hd (cs:=#[.int .i64 aF,.int .i64 aE,.bool bK]) (t:=104) ?hr ?_;(case hd=>rfl);(case hg=>rfl);(case hr=>first|(go_simp;done)|(go_simp;rfl));intro aC hg bW hbox hb;have n0_:=A' (O' (g:=aB) (qB aA.out) hb);have n1_:=A' (W' (qK1 HB.out aV.out) hb);have n2_:=A' (hbox);have n3_:=A' ((by rw[hg];exact(V' (qK1 HB.out aV.out)):w.heap.size≤aC));have n4_:=A' ((by rw[hg];exact(V' (qK1 HB.out aV.out)):w.heap.size≤aC));have n5_:=A' ((by rw[hg];exact Nat.ne_of_lt (bL' (g:=aB) (qB aA.out)):aB≠aC));have n6_:=A' ((by rw[hg];exact Nat.ne_of_gt (bL' (g:=aB) (qB aA.out)):aC≠aB));clear aA;clear HB;have aA:=n0_;have HB:=n1_;have aD:=n2_;have bV:=n3_;have bP:=n4_;have aU:=n5_;have aT:=n6_;clear n0_ n1_ n2_ n3_ n4_ n5_ n6_;clear hb hbox hg;have dK:=aU.out;have dG:=aT.out;have cL:bW.cell? ⟨aB,0,none⟩=some (.slice bM aG.length bN):=(N' aA.out 0).trans rfl;have cU:bW.cell? ⟨aB,1,none⟩=some (.slice bL bJ.length bO):=(N' aA.out 1).trans rfl;have cP:=Y' aA.out 0;have cZ:=Y' aA.out 1;have cE:bW.cell? ⟨aC,0,none⟩=some (.int .i64 aF):=(N' aD.out 0).trans rfl;have cF:bW.cell? ⟨aC,1,none⟩=some (.int .i64 aE):=(N' aD.out 1).trans rfl;have cC:bW.cell? ⟨aC,2,none⟩=some (.bool bK):=(N' aD.out 2).trans rfl;have cN:=Y' aD.out 0;have cD:=Y' aD.out 1;have cM:=Y' aD.out 2;have bF:0≤(aE:Int):=oD' qA;have bC:aE<(aG.length:Int):=oD' qA;obtain⟨aX,bT,aI,aP,aK⟩:=at_T90 aW.out aE bF bC;cases bT;try replace aI:=qC HB.out aI;try replace aP:=qC HB.out aP;try replace aK:=qC HB.out aK;replace bF:=eq_true bF;replace bC:=eq_true bC;have aZ:0≤(aF:Int):=oD' qA;have bA:aF<(aG.length:Int):=oD' qA;obtain⟨bG,bQ,aL,aM,aR⟩:=at_T90 aW.out aF aZ bA;obtain rfl:aX=bG:=(by injection bQ);try replace aL:=qC HB.out aL;try replace aM:=qC HB.out aM;try replace aR:=qC HB.out aR;replace aZ:=eq_true aZ;replace bA:=eq_true bA;have bE:0≤(aE:Int):=oD' qA;have aY:aE<(aG.length:Int):=oD' qA;obtain⟨bI,bS,aN,aS,aQ⟩:=at_T90 aW.out aE bE aY;obtain rfl:aX=bI:=(by injection bS);try replace aN:=qC HB.out aN;try replace aS:=qC HB.out aS;try replace aQ:=qC HB.out aQ;replace bE:=eq_true bE;replace aY:=eq_true aY;have bD:0≤(aF:Int):=oD' qA;have bB:aF<(aG.length:Int):=oD' qA;obtain⟨bH,bR,aO,aJ,aH⟩:=at_T90 aW.out aF bD bB;obtain rfl:aX=bH:=(by injection bR);try replace aO:=qC HB.out aO;try replace aJ:=qC HB.out aJ;try replace aH:=qC HB.out aH;replace bD:=eq_true bD;replace bB:=eq_true bB));try go_wp2_with (first|((with_reducible refine gate_dst (N:=3) rfl ?_);refine box_event ?hg (N:=3) ?hd (cs:=#[.slice bM aG.length bN,.slice bL bJ.length bO]) (t:=33) ?hr ?_;(case hd=>rfl);(case hg=>rfl);(case hr=>first|(go_simp;done)|(go_simp;rfl));intro aB hg dO hbox hb;have n0_:=A' (W' (qK0 HB.out) hb);have n1_:=A' (hbox);have n2_:=A' ((by rw[hg];exact(V' (qK0 HB.out)):w.heap.size≤aB));have n3_:=A' ((by rw[hg];exact(V' (qK0 HB.out)):w.heap.size≤aB));clear HB;have HB:=n0_;have aA:=n1_;have bU:=n2_;have aV:=n3_;clear n0_ n1_ n2_ n3_;clear hb hbox hg)|((with_reducible refine gate_dst (N:=4) rfl ?_);refine box_event ?hg (N:=4) ?hd (cs:=#[.int .i64 aF,.int .i64 aE,.bool bK]) (t:=104) ?hr ?_;(case hd=>rfl);(case hg=>rfl);(case hr=>first|(go_simp;done)|(go_simp;rfl));intro aC hg bW hbox hb;have n0_:=A' (O' (g:=aB) (qB aA.out) hb);have n1_:=A' (W' (qK1 HB.out aV.out) hb);have n2_:=A' (hbox);have n3_:=A' ((by rw[hg];exact(V' (qK1 HB.out aV.out)):w.heap.size≤aC));have n4_:=A' ((by rw[hg];exact(V' (qK1 HB.out aV.out)):w.heap.size≤aC));have n5_:=A' ((by rw[hg];exact Nat.ne_of_lt (bL' (g:=aB) (qB aA.out)):aB≠aC));have n6_:=A' ((by rw[hg];exact Nat.ne_of_gt (bL' (g:=aB) (qB aA.out)):aC≠aB));clear aA;clear HB;have aA:=n0_;have HB:=n1_;have aD:=n2_;have bV:=n3_;have bP:=n4_;have aU:=n5_;have aT:=n6_;clear n0_ n1_ n2_ n3_ n4_ n5_ n6_;clear hb hbox hg;have dK:=aU.out;have dG:=aT.out;have cL:bW.cell? ⟨aB,0,none⟩=some (.slice bM aG.length bN):=(N' aA.out 0).trans rfl;have cU:bW.cell? ⟨aB,1,none⟩=some (.slice bL bJ.length bO):=(N' aA.out 1).trans rfl;have cP:=Y' aA.out 0;have cZ:=Y' aA.out 1;have cE:bW.cell? ⟨aC,0,none⟩=some (.int .i64 aF):=(N' aD.out 0).trans rfl;have cF:bW.cell? ⟨aC,1,none⟩=some (.int .i64 aE):=(N' aD.out 1).trans rfl;have cC:bW.cell? ⟨aC,2,none⟩=some (.bool bK):=(N' aD.out 2).trans rfl;have cN:=Y' aD.out 0;have cD:=Y' aD.out 1;have cM:=Y' aD.out 2;have bF:0≤(aE:Int):=oD' qA;have bC:aE<(aG.length:Int):=oD' qA;obtain⟨aX,bT,aI,aP,aK⟩:=at_T90 aW.out aE bF bC;cases bT;try replace aI:=qC HB.out aI;try replace aP:=qC HB.out aP;try replace aK:=qC HB.out aK;replace bF:=eq_true bF;replace bC:=eq_true bC;have aZ:0≤(aF:Int):=oD' qA;have bA:aF<(aG.length:Int):=oD' qA;obtain⟨bG,bQ,aL,aM,aR⟩:=at_T90 aW.out aF aZ bA;obtain rfl:aX=bG:=(by injection bQ);try replace aL:=qC HB.out aL;try replace aM:=qC HB.out aM;try replace aR:=qC HB.out aR;replace aZ:=eq_true aZ;replace bA:=eq_true bA;have bE:0≤(aE:Int):=oD' qA;have aY:aE<(aG.length:Int):=oD' qA;obtain⟨bI,bS,aN,aS,aQ⟩:=at_T90 aW.out aE bE aY;obtain rfl:aX=bI:=(by injection bS);try replace aN:=qC HB.out aN;try replace aS:=qC HB.out aS;try replace aQ:=qC HB.out aQ;replace bE:=eq_true bE;replace aY:=eq_true aY;have bD:0≤(aF:Int):=oD' qA;have bB:aF<(aG.length:Int):=oD' qA;obtain⟨bH,bR,aO,aJ,aH⟩:=at_T90 aW.out aF bD bB;obtain rfl:aX=bH:=(by injection bR);try replace aO:=qC HB.out aO;try replace aJ:=qC HB.out aJ;try replace aH:=qC HB.out aH;replace bD:=eq_true bD;replace bB:=eq_true bB)))
       go_ret2;exact⟨qE,qK2 HB.out aV.out bP.out⟩
      ·rw[if_neg c14]at H;have c14b0:(a2 == aE)=false:=beq_eq_false_iff_ne.mpr c14;have c14b1:(a2 != aE)=true:=bne_iff_ne.mpr c14;simp only[Option.some.injEq,Prod.mk.injEq]at H;obtain⟨rfl,rfl⟩:=H;go_enter Try.func71,Try.ntmps71;go_wp2_with (first|((with_reducible refine gate_dst (N:=3) rfl ?_);refine box_event ?hg (N:=3) ?hd (cs:=#[.slice bM aG.length bN,.slice bL bJ.length bO]) (t:=33) ?hr ?_;(case hd=>rfl);(case hg=>rfl);(case hr=>first|(go_simp;done)|(go_simp;rfl));intro aB hg dQ hbox hb;have n0_:=A' (W' (qK0 HB.out) hb);have n1_:=A' (hbox);have n2_:=A' ((by rw[hg];exact(V' (qK0 HB.out)):w.heap.size≤aB));have n3_:=A' ((by rw[hg];exact(V' (qK0 HB.out)):w.heap.size≤aB));clear HB;have HB:=n0_;have aA:=n1_;have bU:=n2_;have aV:=n3_;clear n0_ n1_ n2_ n3_;clear hb hbox hg)|((with_reducible refine gate_dst (N:=4) rfl ?_);refine box_event ?hg (N:=4) ?hd (cs:=#[.int .i64 aF,.int .i64 aE,.bool bK]) (t:=104) ?hr ?_;(case hd=>rfl);(case hg=>rfl);(case hr=>first|(go_simp;done)|(go_simp;rfl));intro aC hg bX hbox hb;have n0_:=A' (O' (g:=aB) (qB aA.out) hb);have n1_:=A' (W' (qK1 HB.out aV.out) hb);have n2_:=A' (hbox);have n3_:=A' ((by rw[hg];exact(V' (qK1 HB.out aV.out)):w.heap.size≤aC));have n4_:=A' ((by rw[hg];exact(V' (qK1 HB.out aV.out)):w.heap.size≤aC));have n5_:=A' ((by rw[hg];exact Nat.ne_of_lt (bL' (g:=aB) (qB aA.out)):aB≠aC));have n6_:=A' ((by rw[hg];exact Nat.ne_of_gt (bL' (g:=aB) (qB aA.out)):aC≠aB));clear aA;clear HB;have aA:=n0_;have HB:=n1_;have aD:=n2_;have bV:=n3_;have bP:=n4_;have aU:=n5_;have aT:=n6_;clear n0_ n1_ n2_ n3_ n4_ n5_ n6_;clear hb hbox hg;have dD:=aU.out;have dI:=aT.out;have cY:bX.cell? ⟨aB,0,none⟩=some (.slice bM aG.length bN):=(N' aA.out 0).trans rfl;have cW:bX.cell? ⟨aB,1,none⟩=some (.slice bL bJ.length bO):=(N' aA.out 1).trans rfl;have dB:=Y' aA.out 0;have cR:=Y' aA.out 1;have dC:bX.cell? ⟨aC,0,none⟩=some (.int .i64 aF):=(N' aD.out 0).trans rfl;have cI:bX.cell? ⟨aC,1,none⟩=some (.int .i64 aE):=(N' aD.out 1).trans rfl;have cA:bX.cell? ⟨aC,2,none⟩=some (.bool bK):=(N' aD.out 2).trans rfl;have cS:=Y' aD.out 0;have cV:=Y' aD.out 1;have cQ:=Y' aD.out 2;have bF:0≤(aE:Int):=oD' qA;have bC:aE<(aG.length:Int):=oD' qA;obtain⟨aX,bT,aI,aP,aK⟩:=at_T90 aW.out aE bF bC;cases bT;try replace aI:=qC HB.out aI;try replace aP:=qC HB.out aP;try replace aK:=qC HB.out aK;replace bF:=eq_true bF;replace bC:=eq_true bC;have aZ:0≤(aF:Int):=oD' qA;have bA:aF<(aG.length:Int):=oD' qA;obtain⟨bG,bQ,aL,aM,aR⟩:=at_T90 aW.out aF aZ bA;obtain rfl:aX=bG:=(by injection bQ);try replace aL:=qC HB.out aL;try replace aM:=qC HB.out aM;try replace aR:=qC HB.out aR;replace aZ:=eq_true aZ;replace bA:=eq_true bA;have bE:0≤(aE:Int):=oD' qA;have aY:aE<(aG.length:Int):=oD' qA;obtain⟨bI,bS,aN,aS,aQ⟩:=at_T90 aW.out aE bE aY;obtain rfl:aX=bI:=(by injection bS);try replace aN:=qC HB.out aN;try replace aS:=qC HB.out aS;try replace aQ:=qC HB.out aQ;replace bE:=eq_true bE;replace aY:=eq_true aY;have bD:0≤(aF:Int):=oD' qA;have bB:aF<(aG.length:Int):=oD' qA;obtain⟨bH,bR,aO,aJ,aH⟩:=at_T90 aW.out aF bD bB;obtain rfl:aX=bH:=(by injection bR);try replace aO:=qC HB.out aO;try replace aJ:=qC HB.out aJ;try replace aH:=qC HB.out aH;replace bD:=eq_true bD;replace bB:=eq_true bB))
       repeat(go_quiet (first|((with_reducible refine gate_dst (N:=3) rfl ?_);refine box_event ?hg (N:=3) ?hd (cs:=#[.slice bM aG.length bN,.slice bL bJ.length bO]) (t:=33) ?hr ?_;(case hd=>rfl);(case hg=>rfl);(case hr=>first|(go_simp;done)|(go_simp;rfl));intro aB hg dQ hbox hb;have n0_:=A' (W' (qK0 HB.out) hb);have n1_:=A' (hbox);have n2_:=A' ((by rw[hg];exact(V' (qK0 HB.out)):w.heap.size≤aB));have n3_:=A' ((by rw[hg];exact(V' (qK0 HB.out)):w.heap.size≤aB));clear HB;have HB:=n0_;have aA:=n1_;have bU:=n2_;have aV:=n3_;clear n0_ n1_ n2_ n3_;clear hb hbox hg)|((with_reducible refine gate_dst (N:=4) rfl ?_);refine box_event ?hg (N:=4) ?hd (cs:=#[.int .i64 aF,.int .i64 aE,.bool bK]) (t:=104) ?hr ?_;(case hd=>rfl);(case hg=>rfl);(case hr=>first|(go_simp;done)|(go_simp;rfl));intro aC hg bX hbox hb;have n0_:=A' (O' (g:=aB) (qB aA.out) hb);have n1_:=A' (W' (qK1 HB.out aV.out) hb);have n2_:=A' (hbox);have n3_:=A' ((by rw[hg];exact(V' (qK1 HB.out aV.out)):w.heap.size≤aC));have n4_:=A' ((by rw[hg];exact(V' (qK1 HB.out aV.out)):w.heap.size≤aC));have n5_:=A' ((by rw[hg];exact Nat.ne_of_lt (bL' (g:=aB) (qB aA.out)):aB≠aC));have n6_:=A' ((by rw[hg];exact Nat.ne_of_gt (bL' (g:=aB) (qB aA.out)):aC≠aB));clear aA;clear HB;have aA:=n0_;have HB:=n1_;have aD:=n2_;have bV:=n3_;have bP:=n4_;have aU:=n5_;have aT:=n6_;clear n0_ n1_ n2_ n3_ n4_ n5_ n6_;clear hb hbox hg;have dD:=aU.out;have dI:=aT.out;have cY:bX.cell? ⟨aB,0,none⟩=some (.slice bM aG.length bN):=(N' aA.out 0).trans rfl;have cW:bX.cell? ⟨aB,1,none⟩=some (.slice bL bJ.length bO):=(N' aA.out 1).trans rfl;have dB:=Y' aA.out 0;have cR:=Y' aA.out 1;have dC:bX.cell? ⟨aC,0,none⟩=some (.int .i64 aF):=(N' aD.out 0).trans rfl;have cI:bX.cell? ⟨aC,1,none⟩=some (.int .i64 aE):=(N' aD.out 1).trans rfl;have cA:bX.cell? ⟨aC,2,none⟩=some (.bool bK):=(N' aD.out 2).trans rfl;have cS:=Y' aD.out 0;have cV:=Y' aD.out 1;have cQ:=Y' aD.out 2;have bF:0≤(aE:Int):=oD' qA;have bC:aE<(aG.length:Int):=oD' qA;obtain⟨aX,bT,aI,aP,aK⟩:=at_T90 aW.out aE bF bC;cases bT;try replace aI:=qC HB.out aI;try replace aP:=qC HB.out aP;try replace aK:=qC HB.out aK;replace bF:=eq_true bF;replace bC:=eq_true bC;have aZ:0≤(aF:Int):=oD' qA;have bA:aF<(aG.length:Int):=oD' qA;obtain⟨bG,bQ,aL,aM,aR⟩:=at_T90 aW.out aF aZ bA;obtain rfl:aX=bG:=(by injection bQ);try replace aL:=qC HB.out aL;try replace aM:=qC HB.out aM;try replace aR:=qC HB.out aR;replace aZ:=eq_true aZ;replace bA:=eq_true bA;have bE:0≤(aE:Int):=oD' qA;have aY:aE<(aG.length:Int):=oD' qA;obtain⟨bI,bS,aN,aS,aQ⟩:=at_T90 aW.out aE bE aY;obtain rfl:aX=bI:=(by injection bS);try replace aN:=qC HB.out aN;try replace aS:=qC HB.out aS;try replace aQ:=qC HB.out aQ;replace bE:=eq_true bE;replace aY:=eq_true aY;have bD:0≤(aF:Int):=oD' qA;have bB:aF<(aG.length:Int):=oD' qA;obtain⟨bH,bR,aO,aJ,aH⟩:=at_T90 aW.out aF bD bB;obtain rfl:aX=bH:=(by injection bR);try replace aO:=qC HB.out aO;try replace aJ:=qC HB.out aJ;try replace aH:=qC HB.out aH;replace bD:=eq_true bD;replace bB:=eq_true bB));try go_wp2_with (first|((with_reducible refine gate_dst (N:=3) rfl ?_);refine box_event ?hg (N:=3) ?hd (cs:=#[.slice bM aG.length bN,.slice bL bJ.length bO]) (t:=33) ?hr ?_;(case hd=>rfl);(case hg=>rfl);(case hr=>first|(go_simp;done)|(go_simp;rfl));intro aB hg dQ hbox hb;have n0_:=A' (W' (qK0 HB.out) hb);have n1_:=A' (hbox);have n2_:=A' ((by rw[hg];exact(V' (qK0 HB.out)):w.heap.size≤aB));have n3_:=A' ((by rw[hg];exact(V' (qK0 HB.out)):w.heap.size≤aB));clear HB;have HB:=n0_;have aA:=n1_;have bU:=n2_;have aV:=n3_;clear n0_ n1_ n2_ n3_;clear hb hbox hg)|((with_reducible refine gate_dst (N:=4) rfl ?_);refine box_event ?hg (N:=4) ?hd (cs:=#[.int .i64 aF,.int .i64 aE,.bool bK]) (t:=104) ?hr ?_;(case hd=>rfl);(case hg=>rfl);(case hr=>first|(go_simp;done)|(go_simp;rfl));intro aC hg bX hbox hb;have n0_:=A' (O' (g:=aB) (qB aA.out) hb);have n1_:=A' (W' (qK1 HB.out aV.out) hb);have n2_:=A' (hbox);have n3_:=A' ((by rw[hg];exact(V' (qK1 HB.out aV.out)):w.heap.size≤aC));have n4_:=A' ((by rw[hg];exact(V' (qK1 HB.out aV.out)):w.heap.size≤aC));have n5_:=A' ((by rw[hg];exact Nat.ne_of_lt (bL' (g:=aB) (qB aA.out)):aB≠aC));have n6_:=A' ((by rw[hg];exact Nat.ne_of_gt (bL' (g:=aB) (qB aA.out)):aC≠aB));clear aA;clear HB;have aA:=n0_;have HB:=n1_;have aD:=n2_;have bV:=n3_;have bP:=n4_;have aU:=n5_;have aT:=n6_;clear n0_ n1_ n2_ n3_ n4_ n5_ n6_;clear hb hbox hg;have dD:=aU.out;have dI:=aT.out;have cY:bX.cell? ⟨aB,0,none⟩=some (.slice bM aG.length bN):=(N' aA.out 0).trans rfl;have cW:bX.cell? ⟨aB,1,none⟩=some (.slice bL bJ.length bO):=(N' aA.out 1).trans rfl;have dB:=Y' aA.out 0;have cR:=Y' aA.out 1;have dC:bX.cell? ⟨aC,0,none⟩=some (.int .i64 aF):=(N' aD.out 0).trans rfl;have cI:bX.cell? ⟨aC,1,none⟩=some (.int .i64 aE):=(N' aD.out 1).trans rfl;have cA:bX.cell? ⟨aC,2,none⟩=some (.bool bK):=(N' aD.out 2).trans rfl;have cS:=Y' aD.out 0;have cV:=Y' aD.out 1;have cQ:=Y' aD.out 2;have bF:0≤(aE:Int):=oD' qA;have bC:aE<(aG.length:Int):=oD' qA;obtain⟨aX,bT,aI,aP,aK⟩:=at_T90 aW.out aE bF bC;cases bT;try replace aI:=qC HB.out aI;try replace aP:=qC HB.out aP;try replace aK:=qC HB.out aK;replace bF:=eq_true bF;replace bC:=eq_true bC;have aZ:0≤(aF:Int):=oD' qA;have bA:aF<(aG.length:Int):=oD' qA;obtain⟨bG,bQ,aL,aM,aR⟩:=at_T90 aW.out aF aZ bA;obtain rfl:aX=bG:=(by injection bQ);try replace aL:=qC HB.out aL;try replace aM:=qC HB.out aM;try replace aR:=qC HB.out aR;replace aZ:=eq_true aZ;replace bA:=eq_true bA;have bE:0≤(aE:Int):=oD' qA;have aY:aE<(aG.length:Int):=oD' qA;obtain⟨bI,bS,aN,aS,aQ⟩:=at_T90 aW.out aE bE aY;obtain rfl:aX=bI:=(by injection bS);try replace aN:=qC HB.out aN;try replace aS:=qC HB.out aS;try replace aQ:=qC HB.out aQ;replace bE:=eq_true bE;replace aY:=eq_true aY;have bD:0≤(aF:Int):=oD' qA;have bB:aF<(aG.length:Int):=oD' qA;obtain⟨bH,bR,aO,aJ,aH⟩:=at_T90 aW.out aF bD bB;obtain rfl:aX=bH:=(by injection bR);try replace aO:=qC HB.out aO;try replace aJ:=qC HB.out aJ;try replace aH:=qC HB.out aH;replace bD:=eq_true bD;replace bB:=eq_true bB)))
       go_ret2;exact⟨qE,qK2 HB.out aV.out bP.out⟩
    ·rw[if_neg c7]at H;exact absurd H (by simp)
   ·rw[if_neg c6]at H;exact absurd H (by simp)
  ·rw[if_neg c5]at H;exact absurd H (by simp)
 ·rw[if_neg c4]at H;exact absurd H (by simp)
/-! ### impl_fraction: function 106 -/
def impl_fraction.f (k:Nat) (a0:Int) (a1:Int):Option (Int×Int):=if a1<0 then((impl_gcd.f k (wrap64 (-a0)) (wrap64 (-a1))).bind fun aA=>(if aA=0 then(none)else(some (wrap64 (Int.tdiv (wrap64 (-a0)) aA),wrap64 (Int.tdiv (wrap64 (-a1)) aA)))))else((impl_gcd.f k a0 a1).bind fun aB=>(if aB=0 then(none)else(some (wrap64 (Int.tdiv a0 aB),wrap64 (Int.tdiv a1 aB)))))
theorem impl_fraction.mono: ∀a0 a1 k,LeO (impl_fraction.f k a0 a1) (impl_fraction.f (k+1) a0 a1):=by
 intro a0 a1 k
 unfold impl_fraction.f
 repeat' first
  |(with_reducible exact impl_gcd.mono _ _ _)
  |(with_reducible exact LeO.refl _)
  |(with_reducible exact LeO.none _)
  |(with_reducible refine LeO.ite ?_ ?_)
  |(with_reducible refine LeO.bind ?_ (fun _=>?_))
  |exact LeO.none _
  |refine LeO.ite ?_ ?_
  |refine LeO.bind ?_ (fun _=>?_)
def impl_fraction.T4:Bool×List (List Nat×List Nat):=(true,[([],[]),([],[]),([0,1],[0,1]),([],[]),([],[]),([3,4],[3,4]),([2,5],[2,5]),([6,0,1,2,3,4,5,6],[6])])
def impl_fraction.B4:List Nat:=[0,0,3,0,0,24,63,127]
theorem impl_fraction.tab4:rtab .any (opsOf Try.f106 4)=impl_fraction.T4:=by kernel_rfl
theorem impl_fraction.bits4:waitsOk impl_fraction.T4.2 impl_fraction.B4=true:=by kernel_rfl
set_option maxHeartbeats 8000000 in
set_option maxRecDepth 100000 in
theorem impl_fraction.calls (k:Nat) (a0:Int) (a1:Int) (r1:Int) (r2:Int) (w:World) (h:impl_fraction.f k a0 a1=some (r1,r2)):
 Calls Try.prog 106 #[.int .i64 a0,.int .i64 a1] w fun e w'=>e= .returned (.agg #[.int .i64 r1,.int .i64 r2])∧Below w.heap.size w w':=by
 have aI:=Try.underlying142;have HB:=A' (Below.refl w.heap.size w);have H:(if a1<0 then((impl_gcd.f k (wrap64 (-a0)) (wrap64 (-a1))).bind fun aD=>(if aD=0 then(none)else(some (wrap64 (Int.tdiv (wrap64 (-a0)) aD),wrap64 (Int.tdiv (wrap64 (-a1)) aD)))))else((impl_gcd.f k a0 a1).bind fun aC=>(if aC=0 then(none)else(some (wrap64 (Int.tdiv a0 aC),wrap64 (Int.tdiv a1 aC))))))=some (r1,r2):=h;clear h
 by_cases c3:a1<0
 ·rw[if_pos c3]at H;have c3b0:decide (a1<0)=true:=dT' c3;clear c3;replace H:=Option.bind_eq_some_iff.mp H;obtain⟨aD,aL,H⟩:=H;replace H:(if aD=0 then(none)else(some (wrap64 (Int.tdiv (wrap64 (-a0)) aD),wrap64 (Int.tdiv (wrap64 (-a1)) aD))))=some (r1,r2):=H;have A4:=A' aL;clear aL
  by_cases c5:aD=0
  ·rw[if_pos c5]at H;exact absurd H (by simp)
  ·rw[if_neg c5]at H;have c5b0:(aD == 0)=false:=beq_eq_false_iff_ne.mpr c5;have c5b1:(aD != 0)=true:=bne_iff_ne.mpr c5;simp only[Option.some.injEq,Prod.mk.injEq]at H;obtain⟨rfl,rfl⟩:=H;go_enter Try.func106,Try.ntmps106;try go_wp2_with (first|((with_reducible refine gate_dst (N:=4) rfl ?_);refine box_event ?hg (N:=4) ?hd (cs:=#[.int .i64 0,.int .i64 0]) (t:=142) ?hr ?_;(case hd=>rfl);(case hg=>rfl);(case hr=>first|(go_simp;done)|(go_simp;rfl));intro aB hg w6 hbox hb;have n0_:=A' (W' (qK0 HB.out) hb);have n1_:=A' (hbox);have n2_:=A' ((by rw[hg];exact(V' (qK0 HB.out)):w.heap.size≤aB));have n3_:=A' ((by rw[hg];exact(V' (qK0 HB.out)):w.heap.size≤aB));clear HB;have HB:=n0_;have aA:=n1_;have aG:=n2_;have aE:=n3_;clear n0_ n1_ n2_ n3_;clear hb hbox hg)|((with_reducible refine gate_callee (f:=88) rfl ?_);refine goesL_ (some 14) rfl rfl Try.func88 (by kernel_rfl) rfl #[.int .i64 (wrap64 (-a0)),.int .i64 (wrap64 (-a1))] rfl (by(try simp only[List.map_toArray,List.map_cons,List.map_nil]);first|done|rfl|(simp only[List.length_drop,List.length_take];rfl)) ?_;(with_reducible refine(impl_gcd.calls k (wrap64 (-a0)) (wrap64 (-a1)) aD _ A4.out).mono ?_);rintro e w' ⟨rfl,⟨nd,rfl⟩⟩;refine⟨_,rfl,?_⟩;(try(rw[drewN_self w6];generalize hq_:World.drewN w6 _=w6;have n0_:Aside0 (w6.heap[aB]? =some (.cells #[.int .i64 0,.int .i64 0] 142 (0,0))):=⟨by rw[← hq_];exact(qB aA.out)⟩;have n1_:Aside0 (Below w.heap.size w w6):=⟨by rw[← hq_];exact(qK1 HB.out aE.out)⟩;clear aA HB hq_;have aA:=n0_;have HB:=n1_;clear n0_ n1_))))
   replace aA:=A' (I' aA.out);replace HB:=A' (J' HB.out);refine start_ (n:=8) (S:=fun w'=>True) (ds:=[]) #[n',n',n',n',n',n',n',n'] (by kernel_rfl) rfl rfl trivial (fun hHeld=>?_);refine with_tabW impl_fraction.tab4 impl_fraction.bits4 (fun HT_ HW_=>?_)
   generalize w6.drew=w7 at aA HB hHeld ⊢
   refine pure_ (i:=0) (N:=some 15) (v:=?_) (a':=?_) #[y',n',n',n',n',n',n',n'] rfl rfl (any_of HT_.out (by kernel_rfl)) (fun _ _ _ h=>h) (Or.inl ⟨by rfl,?_⟩) ?_ ?_;rotate_left
   ·exact qI
   rotate_left
   ·exact qP
   refine pure_ (i:=1) (N:=some 16) (v:=?_) (a':=?_) #[y',y',n',n',n',n',n',n'] rfl rfl (any_of HT_.out (by kernel_rfl)) (fun _ _ _ h=>h) (Or.inl ⟨by rfl,?_⟩) ?_ ?_;rotate_left
   ·exact qI
   rotate_left
   ·exact qP
   refine pure_ (i:=2) (N:=some 17) (v:=?_) (a':=?_) #[y',y',y',n',n',n',n',n'] rfl rfl (any_of HT_.out (by kernel_rfl)) (fun _ _ _ h=>h) (Or.inl ⟨by rfl,?_⟩) ?_ ?_;rotate_left
   ·exact qI
   rotate_left
   ·exact qP
   refine pure_ (i:=3) (N:=some 18) (v:=?_) (a':=?_) #[y',y',y',y',n',n',n',n'] rfl rfl (any_of HT_.out (by kernel_rfl)) (fun _ _ _ h=>h) (Or.inl ⟨by rfl,?_⟩) ?_ ?_;rotate_left
   ·exact qI
   rotate_left
   ·exact qP
   refine pure_ (i:=4) (N:=some 19) (v:=?_) (a':=?_) #[y',y',y',y',y',n',n',n'] rfl rfl (any_of HT_.out (by kernel_rfl)) (fun _ _ _ h=>h) (Or.inl ⟨by rfl,?_⟩) ?_ ?_;rotate_left
   ·exact qI
   rotate_left
   ·exact qP
   refine pure_ (i:=5) (N:=some 20) (v:=?_) (a':=?_) #[y',y',y',y',y',y',n',n'] rfl rfl (any_of HT_.out (by kernel_rfl)) (fun _ _ _ h=>h) (Or.inl ⟨by rfl,?_⟩) ?_ ?_;rotate_left
   ·exact qI
   rotate_left
   ·exact qP
   refine pure_ (i:=6) (N:=some 21) (v:=?_) (a':=?_) #[y',y',y',y',y',y',y',n'] rfl rfl (any_of HT_.out (by kernel_rfl)) (fun _ _ _ h=>h) (Or.inl ⟨by rfl,?_⟩) ?_ ?_;rotate_left
   ·exact qI
   rotate_left
   ·exact qP
   refine one_ (i:=7) (N:=none) #[y',y',y',y',y',y',y',y'] rfl rfl (one_of HT_.out (by kernel_rfl)) (by decide) (fun K hK=>?_);have aS:w7.cell? ⟨aB,0,none⟩=some (.int .i64 0):=(N' aA.out 0).trans rfl;have aO:=Y' aA.out 0;have aR:w7.cell? ⟨aB,1,none⟩=some (.int .i64 0):=(N' aA.out 1).trans rfl;have aP:=Y' aA.out 1;refine skip_ (w1:=?_) (by rfl) rfl ?_ ?_;rotate_left
   ·go_simp
    rfl
   refine hK.out _ _ trivial (fun hHeld=>?_);clear hK K;refine done_ (done_of HT_.out (by kernel_rfl)) ?_;try go_wp2
   refine bodyPost_ret (results_cell_row rfl _ _ aB 142 #[.int .i64 (wrap64 (Int.tdiv (wrap64 (-a0)) aD)),.int .i64 (wrap64 (Int.tdiv (wrap64 (-a1)) aD))] (0,0) _ rfl (by(with_reducible repeat(first|refine G' ?_ _|refine I' ?_|refine hA' ?_ _));refine blk_put (cs:=#[.int .i64 (wrap64 (Int.tdiv (wrap64 (-a0)) aD)),.int .i64 0]) ?_ 1 _ rfl;(with_reducible repeat(first|refine G' ?_ _|refine I' ?_|refine hA' ?_ _));refine blk_put (cs:=#[.int .i64 0,.int .i64 0]) ?_ 0 _ rfl;(with_reducible repeat(first|refine G' ?_ _|refine I' ?_|refine hA' ?_ _));exact aA.out) Try.underlying142 rfl (by kernel_rfl)) rfl ?_;exact⟨qE,qK1 HB.out aE.out⟩
 ·rw[if_neg c3]at H;have c3b0:decide (a1<0)=false:=dF' c3;clear c3;replace H:=Option.bind_eq_some_iff.mp H;obtain⟨aC,aH,H⟩:=H;replace H:(if aC=0 then(none)else(some (wrap64 (Int.tdiv a0 aC),wrap64 (Int.tdiv a1 aC))))=some (r1,r2):=H;have aM:=A' aH;clear aH
  by_cases c11:aC=0
  ·rw[if_pos c11]at H;exact absurd H (by simp)
  ·rw[if_neg c11]at H;have c11b0:(aC == 0)=false:=beq_eq_false_iff_ne.mpr c11;have c11b1:(aC != 0)=true:=bne_iff_ne.mpr c11;simp only[Option.some.injEq,Prod.mk.injEq]at H;obtain⟨rfl,rfl⟩:=H;go_enter Try.func106,Try.ntmps106;try go_wp2_with (first|((with_reducible refine gate_dst (N:=4) rfl ?_);refine box_event ?hg (N:=4) ?hd (cs:=#[.int .i64 0,.int .i64 0]) (t:=142) ?hr ?_;(case hd=>rfl);(case hg=>rfl);(case hr=>first|(go_simp;done)|(go_simp;rfl));intro aB hg aF hbox hb;have n0_:=A' (W' (qK0 HB.out) hb);have n1_:=A' (hbox);have n2_:=A' ((by rw[hg];exact(V' (qK0 HB.out)):w.heap.size≤aB));have n3_:=A' ((by rw[hg];exact(V' (qK0 HB.out)):w.heap.size≤aB));clear HB;have HB:=n0_;have aA:=n1_;have aG:=n2_;have aE:=n3_;clear n0_ n1_ n2_ n3_;clear hb hbox hg)|((with_reducible refine gate_callee (f:=88) rfl ?_);refine goesL_ (some 14) rfl rfl Try.func88 (by kernel_rfl) rfl #[.int .i64 a0,.int .i64 a1] rfl (by(try simp only[List.map_toArray,List.map_cons,List.map_nil]);first|done|rfl|(simp only[List.length_drop,List.length_take];rfl)) ?_;(with_reducible refine(impl_gcd.calls k a0 a1 aC _ aM.out).mono ?_);rintro e w' ⟨rfl,⟨nd,rfl⟩⟩;refine⟨_,rfl,?_⟩;(try(rw[drewN_self aF];generalize hq_:World.drewN aF _=aF;have n0_:Aside0 (aF.heap[aB]? =some (.cells #[.int .i64 0,.int .i64 0] 142 (0,0))):=⟨by rw[← hq_];exact(qB aA.out)⟩;have n1_:Aside0 (Below w.heap.size w aF):=⟨by rw[← hq_];exact(qK1 HB.out aE.out)⟩;clear aA HB hq_;have aA:=n0_;have HB:=n1_;clear n0_ n1_))))
   replace aA:=A' (I' aA.out);replace HB:=A' (J' HB.out);refine start_ (n:=8) (S:=fun w'=>True) (ds:=[]) #[n',n',n',n',n',n',n',n'] (by kernel_rfl) rfl rfl trivial (fun hHeld=>?_);refine with_tabW impl_fraction.tab4 impl_fraction.bits4 (fun HT_ HW_=>?_)
   generalize aF.drew=w13 at aA HB hHeld ⊢
   refine pure_ (i:=0) (N:=some 15) (v:=?_) (a':=?_) #[y',n',n',n',n',n',n',n'] rfl rfl (any_of HT_.out (by kernel_rfl)) (fun _ _ _ h=>h) (Or.inl ⟨by rfl,?_⟩) ?_ ?_;rotate_left
   ·exact qI
   rotate_left
   ·exact qP
   refine pure_ (i:=1) (N:=some 16) (v:=?_) (a':=?_) #[y',y',n',n',n',n',n',n'] rfl rfl (any_of HT_.out (by kernel_rfl)) (fun _ _ _ h=>h) (Or.inl ⟨by rfl,?_⟩) ?_ ?_;rotate_left
   ·exact qI
   rotate_left
   ·exact qP
   refine pure_ (i:=2) (N:=some 17) (v:=?_) (a':=?_) #[y',y',y',n',n',n',n',n'] rfl rfl (any_of HT_.out (by kernel_rfl)) (fun _ _ _ h=>h) (Or.inl ⟨by rfl,?_⟩) ?_ ?_;rotate_left
   ·exact qI
   rotate_left
   ·exact qP
   refine pure_ (i:=3) (N:=some 18) (v:=?_) (a':=?_) #[y',y',y',y',n',n',n',n'] rfl rfl (any_of HT_.out (by kernel_rfl)) (fun _ _ _ h=>h) (Or.inl ⟨by rfl,?_⟩) ?_ ?_;rotate_left
   ·exact qI
   rotate_left
   ·exact qP
   refine pure_ (i:=4) (N:=some 19) (v:=?_) (a':=?_) #[y',y',y',y',y',n',n',n'] rfl rfl (any_of HT_.out (by kernel_rfl)) (fun _ _ _ h=>h) (Or.inl ⟨by rfl,?_⟩) ?_ ?_;rotate_left
   ·exact qI
   rotate_left
   ·exact qP
   refine pure_ (i:=5) (N:=some 20) (v:=?_) (a':=?_) #[y',y',y',y',y',y',n',n'] rfl rfl (any_of HT_.out (by kernel_rfl)) (fun _ _ _ h=>h) (Or.inl ⟨by rfl,?_⟩) ?_ ?_;rotate_left
   ·exact qI
   rotate_left
   ·exact qP
   refine pure_ (i:=6) (N:=some 21) (v:=?_) (a':=?_) #[y',y',y',y',y',y',y',n'] rfl rfl (any_of HT_.out (by kernel_rfl)) (fun _ _ _ h=>h) (Or.inl ⟨by rfl,?_⟩) ?_ ?_;rotate_left
   ·exact qI
   rotate_left
   ·exact qP
   refine one_ (i:=7) (N:=none) #[y',y',y',y',y',y',y',y'] rfl rfl (one_of HT_.out (by kernel_rfl)) (by decide) (fun K hK=>?_);have aN:w13.cell? ⟨aB,0,none⟩=some (.int .i64 0):=(N' aA.out 0).trans rfl;have aJ:=Y' aA.out 0;have aQ:w13.cell? ⟨aB,1,none⟩=some (.int .i64 0):=(N' aA.out 1).trans rfl;have aK:=Y' aA.out 1;refine skip_ (w1:=?_) (by rfl) rfl ?_ ?_;rotate_left
   ·go_simp
    rfl
   refine hK.out _ _ trivial (fun hHeld=>?_);clear hK K;refine done_ (done_of HT_.out (by kernel_rfl)) ?_;try go_wp2
   refine bodyPost_ret (results_cell_row rfl _ _ aB 142 #[.int .i64 (wrap64 (Int.tdiv a0 aC)),.int .i64 (wrap64 (Int.tdiv a1 aC))] (0,0) _ rfl (by(with_reducible repeat(first|refine G' ?_ _|refine I' ?_|refine hA' ?_ _));refine blk_put (cs:=#[.int .i64 (wrap64 (Int.tdiv a0 aC)),.int .i64 0]) ?_ 1 _ rfl;(with_reducible repeat(first|refine G' ?_ _|refine I' ?_|refine hA' ?_ _));refine blk_put (cs:=#[.int .i64 0,.int .i64 0]) ?_ 0 _ rfl;(with_reducible repeat(first|refine G' ?_ _|refine I' ?_|refine hA' ?_ _));exact aA.out) Try.underlying142 rfl (by kernel_rfl)) rfl ?_;exact⟨qE,qK1 HB.out aE.out⟩
end Go.Proofs.Ytebbdadpgapobaa.HEl
