-- Written by a program for this claim (the functions that the statement reaches, and that the program's code comes to them).
import Derived.Test.YtebbdadpgapobaaHElx0
import Derived.Test.YtebbdadpgapobaaHElx1
import Derived.Test.YtebbdadpgapobaaHElx2
namespace Go.Proofs.Ytebbdadpgapobaa.HEl
open Go.RowKit Go.Proofs.YtebbdadpgapobaaW.PrintWords Go.Proofs.YtebbdadpgapobaaW.PrintLast Go.Proofs.YtebbdadpgapobaaW.PrintMore
attribute [local go_sem] max2_int min2_int max_two min_two max_three min_three max_four min_four
set_option linter.unusedVariables false
set_option linter.unusedSimpArgs false
/-! ### laws_szPullS: function 16 -/
def laws_szPullS.f (l0:List (S98)) (a1:Int):Option (Int):=if(wrap64 (a1 - (l0.length:Int)))<0 then(some (-1))else(some (wrap64 (a1 - (l0.length:Int))))
set_option maxHeartbeats 8000000 in
set_option maxRecDepth 100000 in
theorem laws_szPullS.calls (A0:Option Addr) (c0:Nat) (l0:List (S98)) (a1:Int) (r:Int) (w:World) (aA:Kd.C k98 w A0 l0.length l0) (aB:l0.length≤c0) (h:laws_szPullS.f l0 a1=some r):
 Calls Try.prog 16 #[.slice A0 l0.length c0,.int .i64 a1] w fun e w'=>e= .returned (.int .i64 r)∧Drawn0 w w':=by
 have aC:=Aside0.mk aA
 have aD:=Aside0.mk aB
 clear aA aB
 have H:(if(wrap64 (a1 - (l0.length:Int)))<0 then(some (-1))else(some (wrap64 (a1 - (l0.length:Int)))))=some r:=h
 clear h
 by_cases c3:(wrap64 (a1 - (l0.length:Int)))<0
 ·rw[if_pos c3]at H
  have c3b0:decide ((wrap64 (a1 - (l0.length:Int)))<0)=true:=decide_eq_true c3
  clear c3
  obtain rfl:=Option.some.inj H
  go_enter Try.func16,Try.ntmps16
  go_wp2
  go_ret
  exact⟨by first|rfl|(simp;done)|(simp[*];done),by repeat(first|exact Drawn0.refl _|apply Drawn0.step)⟩
 ·rw[if_neg c3]at H
  have c3b0:decide ((wrap64 (a1 - (l0.length:Int)))<0)=false:=decide_eq_false c3
  clear c3
  obtain rfl:=Option.some.inj H
  go_enter Try.func16,Try.ntmps16
  go_wp2
  go_ret
  exact⟨by first|rfl|(simp;done)|(simp[*];done),by repeat(first|exact Drawn0.refl _|apply Drawn0.step)⟩
/-! ### spec_l09Loads: function 60 -/
def spec_l09Loads.l0:Nat→List (S76)→Int→Option (Bool)
 |0,_,_=>none
 |k+1,x1,x5=>if x5<(x1.length:Int)then(if 0≤x5 then((spec_l00In.f ((rd_T76 x1 x5).f0) (-100) 100).bind fun aA=>(if aA=true then((spec_l00In.f ((rd_T76 x1 x5).f1) (-100) 100).bind fun aB=>(if aB=true then(spec_l09Loads.l0 k x1 (wrap64 (x5+1)))else(some false)))else(some false)))else(none))else(some true)
def spec_l09Loads.f (k:Nat) (aA:List (S90)) (aB:List (S104)) (l1:List (S76)):Option (Bool):=if(l1.length:Int)=(aA.length:Int)then(spec_l09Loads.l0 k l1 0)else(some false)
theorem spec_l09Loads.mono_l: ∀k,(∀y0 y1,LeO (spec_l09Loads.l0 k y0 y1) (spec_l09Loads.l0 (k+1) y0 y1))
 |0=>fun _ _ r h=>by simp[spec_l09Loads.l0]at h
 |k+1=>by
  have aA:=spec_l09Loads.mono_l k
  ·intro y0 y1
   unfold spec_l09Loads.l0
   repeat' first
   |(with_reducible exact aA _ _)
   |(with_reducible exact LeO.refl _)
   |(with_reducible exact LeO.none _)
   |(with_reducible refine LeO.ite ?_ ?_)
   |(with_reducible refine LeO.bind ?_ (fun _=>?_))
   |exact LeO.none _
   |refine LeO.ite ?_ ?_
   |refine LeO.bind ?_ (fun _=>?_)
theorem spec_l09Loads.mono: ∀a0 a1 a2 k,LeO (spec_l09Loads.f k a0 a1 a2) (spec_l09Loads.f (k+1) a0 a1 a2):=by
 intro a0 a1 a2 k
 have aA:=spec_l09Loads.mono_l k
 unfold spec_l09Loads.f
 repeat' first
  |(with_reducible exact aA _ _)
  |(with_reducible exact LeO.refl _)
  |(with_reducible exact LeO.none _)
  |(with_reducible refine LeO.ite ?_ ?_)
  |(with_reducible refine LeO.bind ?_ (fun _=>?_))
  |exact LeO.none _
  |refine LeO.ite ?_ ?_
  |refine LeO.bind ?_ (fun _=>?_)
set_option maxHeartbeats 8000000 in
set_option maxRecDepth 100000 in
theorem spec_l09Loads.calls (k:Nat) (aZ:Nat) (aN:Option Addr) (aP:Nat) (aD:List (S90)) (aQ:Option Addr) (aT:Nat) (aI:List (S104)) (A1:Option Addr) (c1:Nat) (l1:List (S76)) (r:Bool) (w:World) (bO:w.heap[aZ]? =some (.cells #[.slice aN aD.length aP,.slice aQ aI.length aT] 33 (0,0))) (aW:Kd.C k90 w aN aD.length aD) (aX:aD.length≤aP) (aV:Kd.C k104 w aQ aI.length aI) (aU:aI.length≤aT) (bL:Kd.C k76 w A1 l1.length l1) (bK:l1.length≤c1) (h:spec_l09Loads.f k aD aI l1=some r):
 Calls Try.prog 60 #[.pointer (some ⟨aZ,0,none⟩),.slice A1 l1.length c1] w fun e w'=>e= .returned (.bool r)∧Below w.heap.size w w':=by
 have bQ:=A' aW;have bT:=A' aX;clear aW aX;have bR:=A' aV;have bS:=A' aU;clear aV aU;have bE:=A' bL;have bU:=A' bK;clear bL bK;have aO:=A' bO;clear bO;have HB:=A' (Below.refl w.heap.size w);have H:(if(l1.length:Int)=(aD.length:Int)then(spec_l09Loads.l0 k l1 0)else(some false))=some r:=h;clear h
 by_cases c3:(l1.length:Int)=(aD.length:Int)
 ·rw[if_pos c3]at H;have c3b0:((l1.length:Int) == (aD.length:Int))=true:=beq_iff_eq.mpr c3;have c3b1:((l1.length:Int) != (aD.length:Int))=false:=bne_eq_false_iff_eq.mpr c3;have c3b2:(l1.length == aD.length)=true:=by first|simpa using c3|(simp at c3 ⊢;omega)
  clear c3;have H':=A' H;clear H;have bD:w.cell? ⟨aZ,0,none⟩=some (.slice aN aD.length aP):=(N' aO.out 0).trans rfl;have bC:w.cell? ⟨aZ,1,none⟩=some (.slice aQ aI.length aT):=(N' aO.out 1).trans rfl;have bB:=Y' aO.out 0;have bA:=Y' aO.out 1;go_enter Try.func60,Try.ntmps60;go_wp2
  go_loopg [5] k (fun kq v5 w'=>∃(aA:Int),v5= .int .i64 aA∧Aside0 (spec_l09Loads.l0 kq l1 aA=some r)∧Aside0 (kq≤k)∧Aside0 (w'.heap[aZ]? =some (.cells #[(.slice aN aD.length aP),(.slice aQ aI.length aT)] 33 (0,0)))∧Aside0 (Below w.heap.size w w'))
  case atStart=>exact⟨(0),qS,H',⟨Nat.le_refl _⟩,⟨qB aO.out⟩,⟨qK0 HB.out⟩⟩
  case round=>
   clear H';try clear c1
   try clear p2
   try clear c3
   try clear c3b0
   try clear c3b1
   try clear c3b2
   try clear bD
   try clear bC
   try clear bB
   try clear bA
   obtain⟨aA,rfl,HA,bM,aO,HB⟩:=hrel
   cases gk with
   |zero=>exact absurd HA.out (by simp[spec_l09Loads.l0])
   |succ k1=>
    have H:=HA.out;clear HA;simp only[spec_l09Loads.l0]at H
    by_cases c5:aA<(l1.length:Int)
    ·rw[if_pos c5]at H;have c5b0:decide (aA<(l1.length:Int))=true:=dT' c5;clear c5
     by_cases c6:0≤aA
     ·rw[if_pos c6]at H;have c6b0:decide (0≤aA)=true:=dT' c6;clear c6;replace H:=Option.bind_eq_some_iff.mp H;obtain⟨bF,bN,H⟩:=H;replace H:(if bF=true then((spec_l00In.f ((rd_T76 l1 aA).f1) (-100) 100).bind fun aM=>(if aM=true then(spec_l09Loads.l0 k1 l1 (wrap64 (aA+1)))else(some false)))else(some false))=some r:=H;have A7:=A' bN;clear bN
      by_cases c8:bF=true
      ·subst c8;have H1:((spec_l00In.f ((rd_T76 l1 aA).f1) (-100) 100).bind fun aM=>(if aM=true then(spec_l09Loads.l0 k1 l1 (wrap64 (aA+1)))else(some false)))=some r:=by rw[if_pos rfl]at H;exact H
       clear H;have H:=H1;clear H1;replace H:=Option.bind_eq_some_iff.mp H;obtain⟨aM,bP,H⟩:=H;replace H:(if aM=true then(spec_l09Loads.l0 k1 l1 (wrap64 (aA+1)))else(some false))=some r:=H;have A9:=A' bP;clear bP
       by_cases c10:aM=true
       ·subst c10;have H1:(spec_l09Loads.l0 k1 l1 (wrap64 (aA+1)))=some r:=by rw[if_pos rfl]at H;exact H
        clear H;have H:=H1;clear H1;have H':=A' H;clear H;have aH:0≤(aA:Int):=oD' qA;have aG:aA<(l1.length:Int):=oD' qA;obtain⟨aL,aS,aC,aB⟩:=at_T76 bE.out aA aH aG
        cases aS
        try replace aC:=qC HB.out aC
        try replace aB:=qC HB.out aB
        replace aH:=eq_true aH;replace aG:=eq_true aG;go_wp2_with (first|((with_reducible refine gate_callee (f:=82) rfl ?_);refine goesL_ (some 25) rfl rfl Try.func82 (by kernel_rfl) rfl #[.int .i64 ((rd_T76 l1 aA).f0),.int .i64 (-100),.int .i64 100] rfl (by(try simp only[List.map_toArray,List.map_cons,List.map_nil]);first|done|rfl|(simp only[List.length_drop,List.length_take];rfl)) ?_;(with_reducible refine(spec_l00In.calls ((rd_T76 l1 aA).f0) (-100) 100 true _ A7.out).mono ?_);rintro e w' ⟨rfl,⟨nd,rfl⟩⟩;refine⟨_,rfl,?_⟩;have aJ:0≤(aA:Int):=oD' qA;have aK:aA<(l1.length:Int):=oD' qA;obtain⟨aR,aY,aE,aF⟩:=at_T76 bE.out aA aJ aK;obtain rfl:aL=aR:=(by injection aY);try replace aE:=qC HB.out aE;try replace aF:=qC HB.out aF;replace aJ:=eq_true aJ;replace aK:=eq_true aK)|(go_at_call 82;(with_reducible refine(spec_l00In.calls ((rd_T76 l1 aA).f1) (-100) 100 true _ A9.out).mono ?_);rintro e w' ⟨rfl,⟨nd,rfl⟩⟩))
        go_roundg k1
        case measure=>have:=bM.out;omega
        case rel=>exact⟨(wrap64 (aA+1)),qS,H',⟨by have:=bM.out;omega⟩,⟨qB aO.out⟩,⟨qK0 HB.out⟩⟩
       ·replace c10:=Bool.eq_false_iff.mpr c10;subst c10;have H1:(some false)=some r:=by rw[if_neg (show¬(false=true) by decide)]at H;exact H
        clear H;have H:=H1;clear H1;obtain rfl:=Option.some.inj H;have aH:0≤(aA:Int):=oD' qA;have aG:aA<(l1.length:Int):=oD' qA;obtain⟨aL,aS,aC,aB⟩:=at_T76 bE.out aA aH aG
        cases aS
        try replace aC:=qC HB.out aC
        try replace aB:=qC HB.out aB
        replace aH:=eq_true aH;replace aG:=eq_true aG;go_wp2_with (first|((with_reducible refine gate_callee (f:=82) rfl ?_);refine goesL_ (some 25) rfl rfl Try.func82 (by kernel_rfl) rfl #[.int .i64 ((rd_T76 l1 aA).f0),.int .i64 (-100),.int .i64 100] rfl (by(try simp only[List.map_toArray,List.map_cons,List.map_nil]);first|done|rfl|(simp only[List.length_drop,List.length_take];rfl)) ?_;(with_reducible refine(spec_l00In.calls ((rd_T76 l1 aA).f0) (-100) 100 true _ A7.out).mono ?_);rintro e w' ⟨rfl,⟨nd,rfl⟩⟩;refine⟨_,rfl,?_⟩;have aJ:0≤(aA:Int):=oD' qA;have aK:aA<(l1.length:Int):=oD' qA;obtain⟨aR,aY,aE,aF⟩:=at_T76 bE.out aA aJ aK;obtain rfl:aL=aR:=(by injection aY);try replace aE:=qC HB.out aE;try replace aF:=qC HB.out aF;replace aJ:=eq_true aJ;replace aK:=eq_true aK)|(go_at_call 82;(with_reducible refine(spec_l00In.calls ((rd_T76 l1 aA).f1) (-100) 100 false _ A9.out).mono ?_);rintro e w' ⟨rfl,⟨nd,rfl⟩⟩));go_ret;exact⟨qE,qK0 HB.out⟩
      ·replace c8:=Bool.eq_false_iff.mpr c8;subst c8;have H1:(some false)=some r:=by rw[if_neg (show¬(false=true) by decide)]at H;exact H
       clear H;have H:=H1;clear H1;obtain rfl:=Option.some.inj H;have aH:0≤(aA:Int):=oD' qA;have aG:aA<(l1.length:Int):=oD' qA;obtain⟨aL,aS,aC,aB⟩:=at_T76 bE.out aA aH aG
       cases aS
       try replace aC:=qC HB.out aC
       try replace aB:=qC HB.out aB
       replace aH:=eq_true aH;replace aG:=eq_true aG;go_wp2_with (first|((with_reducible refine gate_callee (f:=82) rfl ?_);refine goesL_ (some 25) rfl rfl Try.func82 (by kernel_rfl) rfl #[.int .i64 ((rd_T76 l1 aA).f0),.int .i64 (-100),.int .i64 100] rfl (by(try simp only[List.map_toArray,List.map_cons,List.map_nil]);first|done|rfl|(simp only[List.length_drop,List.length_take];rfl)) ?_;(with_reducible refine(spec_l00In.calls ((rd_T76 l1 aA).f0) (-100) 100 false _ A7.out).mono ?_);rintro e w' ⟨rfl,⟨nd,rfl⟩⟩;refine⟨_,rfl,?_⟩));go_ret;exact⟨qE,qK0 HB.out⟩
     ·rw[if_neg c6]at H;exact absurd H (by simp)
    ·rw[if_neg c5]at H;have c5b0:decide (aA<(l1.length:Int))=false:=dF' c5;clear c5;obtain rfl:=Option.some.inj H;go_wp2;go_ret;exact⟨qE,qK0 HB.out⟩
 ·rw[if_neg c3]at H;have c3b0:((l1.length:Int) == (aD.length:Int))=false:=beq_eq_false_iff_ne.mpr c3;have c3b1:((l1.length:Int) != (aD.length:Int))=true:=bne_iff_ne.mpr c3;have c3b2:(l1.length == aD.length)=false:=by first|simpa using c3|(simp at c3 ⊢;omega)
  obtain rfl:=Option.some.inj H;have bG:w.cell? ⟨aZ,0,none⟩=some (.slice aN aD.length aP):=(N' aO.out 0).trans rfl;have bJ:w.cell? ⟨aZ,1,none⟩=some (.slice aQ aI.length aT):=(N' aO.out 1).trans rfl;have bI:=Y' aO.out 0;have bH:=Y' aO.out 1;go_enter Try.func60,Try.ntmps60;go_wp2;go_ret;exact⟨qE,qK0 HB.out⟩
/-! ### spec_l00Gcd: function 103 -/
def spec_l00Gcd.l0:Nat→Int→Int→Option (Int)
 |0,_,_=>none
 |k+1,x0,x1=>if x1=0 then(some x0)else(spec_l00Gcd.l0 k x1 (Int.tmod x0 x1))
def spec_l00Gcd.f (k:Nat) (a0:Int) (a1:Int):Option (Int):=spec_l00Gcd.l0 k a0 a1
theorem spec_l00Gcd.mono_l: ∀k,(∀y0 y1,LeO (spec_l00Gcd.l0 k y0 y1) (spec_l00Gcd.l0 (k+1) y0 y1))
 |0=>fun _ _ r h=>by simp[spec_l00Gcd.l0]at h
 |k+1=>by
  have aA:=spec_l00Gcd.mono_l k
  ·intro y0 y1
   unfold spec_l00Gcd.l0
   repeat' first
   |(with_reducible exact aA _ _)
   |(with_reducible exact LeO.refl _)
   |(with_reducible exact LeO.none _)
   |(with_reducible refine LeO.ite ?_ ?_)
   |(with_reducible refine LeO.bind ?_ (fun _=>?_))
   |exact LeO.none _
   |refine LeO.ite ?_ ?_
   |refine LeO.bind ?_ (fun _=>?_)
theorem spec_l00Gcd.mono: ∀a0 a1 k,LeO (spec_l00Gcd.f k a0 a1) (spec_l00Gcd.f (k+1) a0 a1):=by
 intro a0 a1 k
 have aA:=spec_l00Gcd.mono_l k
 unfold spec_l00Gcd.f
 repeat' first
  |(with_reducible exact aA _ _)
  |(with_reducible exact LeO.refl _)
  |(with_reducible exact LeO.none _)
  |(with_reducible refine LeO.ite ?_ ?_)
  |(with_reducible refine LeO.bind ?_ (fun _=>?_))
  |exact LeO.none _
  |refine LeO.ite ?_ ?_
  |refine LeO.bind ?_ (fun _=>?_)
set_option maxHeartbeats 8000000 in
set_option maxRecDepth 100000 in
theorem spec_l00Gcd.calls (k:Nat) (a0:Int) (a1:Int) (r:Int) (w:World) (h:spec_l00Gcd.f k a0 a1=some r):
 Calls Try.prog 103 #[.int .i64 a0,.int .i64 a1] w fun e w'=>e= .returned (.int .i64 r)∧Drawn0 w w':=by
 have H:(spec_l00Gcd.l0 k a0 a1)=some r:=h;clear h;have H':=A' H;clear H;go_enter Try.func103,Try.ntmps103;go_wp2
 go_loopg [0,1] k (fun kq v0 v1 w'=>∃(aB:Int) (aA:Int),v0= .int .i64 aB∧v1= .int .i64 aA∧Aside0 (spec_l00Gcd.l0 kq aB aA=some r)∧Aside0 (kq≤k)∧Drawn0 w w')
 case atStart=>exact⟨(a0),(a1),qS,qS,H',⟨Nat.le_refl _⟩,by repeat(first|exact Drawn0.refl _|apply Drawn0.step)⟩
 case round=>
  clear H';try clear c1
  try clear p2
  obtain⟨aB,aA,rfl,rfl,HA,aC,⟨m1,rfl⟩⟩:=hrel
  cases gk with
  |zero=>exact absurd HA.out (by simp[spec_l00Gcd.l0])
  |succ k1=>
   have H:=HA.out;clear HA;simp only[spec_l00Gcd.l0]at H
   by_cases c3:aA=0
   ·rw[if_pos c3]at H;have c3b0:(aA == 0)=true:=beq_iff_eq.mpr c3;have c3b1:(aA != 0)=false:=bne_eq_false_iff_eq.mpr c3;clear c3;obtain rfl:=Option.some.inj H;go_wp2;go_ret;exact⟨by first|rfl|(simp;done)|(simp[*];done),by repeat(first|exact Drawn0.refl _|apply Drawn0.step)⟩
   ·rw[if_neg c3]at H;have c3b0:(aA == 0)=false:=beq_eq_false_iff_ne.mpr c3;have c3b1:(aA != 0)=true:=bne_iff_ne.mpr c3;have H':=A' H;clear H;go_wp2
    go_roundg k1
    case measure=>have:=aC.out;omega
    case rel=>exact⟨(aA),(Int.tmod aB aA),qS,qS,H',⟨by have:=aC.out;omega⟩,by repeat(first|exact Drawn0.refl _|apply Drawn0.step)⟩
/-! ### spec_l00Size: function 104 -/
def spec_l00Size.f (a0:Int):Option (Int):=if a0<0 then(some (wrap64 (-a0)))else(some a0)
set_option maxHeartbeats 8000000 in
set_option maxRecDepth 100000 in
theorem spec_l00Size.calls (a0:Int) (r:Int) (w:World) (h:spec_l00Size.f a0=some r):
 Calls Try.prog 104 #[.int .i64 a0] w fun e w'=>e= .returned (.int .i64 r)∧Drawn0 w w':=by
 have H:(if a0<0 then(some (wrap64 (-a0)))else(some a0))=some r:=h
 clear h
 by_cases c2:a0<0
 ·rw[if_pos c2]at H
  have c2b0:decide (a0<0)=true:=decide_eq_true c2
  clear c2
  obtain rfl:=Option.some.inj H
  go_enter Try.func104,Try.ntmps104
  go_wp2
  go_ret
  exact⟨by first|rfl|(simp;done)|(simp[*];done),by repeat(first|exact Drawn0.refl _|apply Drawn0.step)⟩
 ·rw[if_neg c2]at H
  have c2b0:decide (a0<0)=false:=decide_eq_false c2
  clear c2
  obtain rfl:=Option.some.inj H
  go_enter Try.func104,Try.ntmps104
  go_wp2
  go_ret
  exact⟨by first|rfl|(simp;done)|(simp[*];done),by repeat(first|exact Drawn0.refl _|apply Drawn0.step)⟩
/-! ### spec_l09Lowest: function 98 -/
mutual
def spec_l09Lowest.l0:Nat→List Int→Int→Int→Int→Option (List Int×Int)
 |0,_,_,_,_=>none
 |k+1,x0,x1,x5,x6=>if x6<(x0.length:Int)then(if 0≤x6 then((spec_l00Size.f (rd x0 x6)).bind fun aB=>((spec_l00Gcd.f k x5 aB).bind fun aA=>(spec_l09Lowest.l0 k x0 x1 aA (wrap64 (x6+1)))))else(none))else(if x1<0 then(spec_l09Lowest.j1 k x0 x1 (wrap64 (-x5)))else(spec_l09Lowest.j1 k x0 x1 x5))
def spec_l09Lowest.j1:Nat→List Int→Int→Int→Option (List Int×Int)
 |0,_,_,_=>none
 |k+1,x0,x1,x5=>if x5=0 then(none)else(spec_l09Lowest.l1 k x0 x5 0 (([]:List Int)) (wrap64 (Int.tdiv x1 x5)))
def spec_l09Lowest.l1:Nat→List Int→Int→Int→List Int→Int→Option (List Int×Int)
 |0,_,_,_,_,_=>none
 |k+1,x0,x5,x8,aA,aB=>if x8<(x0.length:Int)then(if 0≤x8 then(if x5=0 then(none)else(if aA.length<17592186044416 then(spec_l09Lowest.l1 k x0 x5 (wrap64 (x8+1)) (aA ++ [wrap64 (Int.tdiv (rd x0 x8) x5)]) aB)else(none)))else(none))else(some (aA,aB))
end
def spec_l09Lowest.f (k:Nat) (l0:List Int) (a1:Int):Option (List Int×Int):=(spec_l00Size.f a1).bind fun aA=>(spec_l09Lowest.l0 k l0 a1 aA 0)
theorem spec_l09Lowest.mono_l: ∀k,(∀y0 y1 y2 y3,LeO (spec_l09Lowest.l0 k y0 y1 y2 y3) (spec_l09Lowest.l0 (k+1) y0 y1 y2 y3))∧(∀y0 y1 y2,LeO (spec_l09Lowest.j1 k y0 y1 y2) (spec_l09Lowest.j1 (k+1) y0 y1 y2))∧(∀y0 y1 y2 y3 y4,LeO (spec_l09Lowest.l1 k y0 y1 y2 y3 y4) (spec_l09Lowest.l1 (k+1) y0 y1 y2 y3 y4))
 |0=>⟨fun _ _ _ _ r h=>by simp[spec_l09Lowest.l0]at h,fun _ _ _ r h=>by simp[spec_l09Lowest.j1]at h,fun _ _ _ _ _ r h=>by simp[spec_l09Lowest.l1]at h⟩
 |k+1=>by
  obtain⟨aB,aC,aA⟩:=spec_l09Lowest.mono_l k
  refine⟨?_,?_,?_⟩
  ·intro y0 y1 y2 y3
   unfold spec_l09Lowest.l0
   repeat' first
   |(with_reducible exact aB _ _ _ _)
   |(with_reducible exact aC _ _ _)
   |(with_reducible exact aA _ _ _ _ _)
   |(with_reducible exact spec_l00Gcd.mono _ _ _)
   |(with_reducible exact LeO.refl _)
   |(with_reducible exact LeO.none _)
   |(with_reducible refine LeO.ite ?_ ?_)
   |(with_reducible refine LeO.bind ?_ (fun _=>?_))
   |exact LeO.none _
   |refine LeO.ite ?_ ?_
   |refine LeO.bind ?_ (fun _=>?_)
  ·intro y0 y1 y2
   unfold spec_l09Lowest.j1
   repeat' first
   |(with_reducible exact aB _ _ _ _)
   |(with_reducible exact aC _ _ _)
   |(with_reducible exact aA _ _ _ _ _)
   |(with_reducible exact spec_l00Gcd.mono _ _ _)
   |(with_reducible exact LeO.refl _)
   |(with_reducible exact LeO.none _)
   |(with_reducible refine LeO.ite ?_ ?_)
   |(with_reducible refine LeO.bind ?_ (fun _=>?_))
   |exact LeO.none _
   |refine LeO.ite ?_ ?_
   |refine LeO.bind ?_ (fun _=>?_)
  ·intro y0 y1 y2 y3 y4
   unfold spec_l09Lowest.l1
   repeat' first
   |(with_reducible exact aB _ _ _ _)
   |(with_reducible exact aC _ _ _)
   |(with_reducible exact aA _ _ _ _ _)
   |(with_reducible exact spec_l00Gcd.mono _ _ _)
   |(with_reducible exact LeO.refl _)
   |(with_reducible exact LeO.none _)
   |(with_reducible refine LeO.ite ?_ ?_)
   |(with_reducible refine LeO.bind ?_ (fun _=>?_))
   |exact LeO.none _
   |refine LeO.ite ?_ ?_
   |refine LeO.bind ?_ (fun _=>?_)
theorem spec_l09Lowest.mono: ∀a0 a1 k,LeO (spec_l09Lowest.f k a0 a1) (spec_l09Lowest.f (k+1) a0 a1):=by
 intro a0 a1 k
 obtain⟨aB,aC,aA⟩:=spec_l09Lowest.mono_l k
 unfold spec_l09Lowest.f
 repeat' first
  |(with_reducible exact aB _ _ _ _)
  |(with_reducible exact aC _ _ _)
  |(with_reducible exact aA _ _ _ _ _)
  |(with_reducible exact spec_l00Gcd.mono _ _ _)
  |(with_reducible exact LeO.refl _)
  |(with_reducible exact LeO.none _)
  |(with_reducible refine LeO.ite ?_ ?_)
  |(with_reducible refine LeO.bind ?_ (fun _=>?_))
  |exact LeO.none _
  |refine LeO.ite ?_ ?_
  |refine LeO.bind ?_ (fun _=>?_)
def spec_l09Lowest.T12:Bool×List (List Nat×List Nat):=(true,[([],[]),([0],[0]),([],[]),([],[]),([2,3],[2,3]),([4],[4]),([],[]),([5,6],[5,6]),([7],[7]),([1,8],[1,8]),([0,1,2,3,4,5,6,7,8,9],[]),([10,9,9,0,1,2,3,4,5,6,7,8,9],[9,10])])
def spec_l09Lowest.B12:List Nat:=[0,1,0,0,12,28,0,124,252,511,1023,2047]
theorem spec_l09Lowest.tab12:rtab .any (opsOf Try.f98 12)=spec_l09Lowest.T12:=by kernel_rfl
theorem spec_l09Lowest.bits12:waitsOk spec_l09Lowest.T12.2 spec_l09Lowest.B12=true:=by kernel_rfl
set_option maxHeartbeats 8000000 in
set_option maxRecDepth 100000 in
theorem spec_l09Lowest.calls (k:Nat) (A0:Option Addr) (c0:Nat) (l0:List Int) (a1:Int) (r1:List Int) (r2:Int) (w:World) (dD:Kd.C (Kd.int .i64) w A0 l0.length l0) (cU:l0.length≤c0) (h:spec_l09Lowest.f k l0 a1=some (r1,r2)):
 Calls Try.prog 98 #[.slice A0 l0.length c0,.int .i64 a1] w fun e w'=>∃v0_:Value,e= .returned (.agg #[v0_,.int .i64 r2])∧Kd.R (Kd.int .i64) 2 w' w.heap.size (fun _=>True) v0_ r1∧Below w.heap.size w w':=by
 have dK:=Try.underlying44;have cZ:=A' dD;have dN:=A' cU;clear dD cU;have HB:=A' (Below.refl w.heap.size w);have H:((spec_l00Size.f a1).bind fun bD=>(spec_l09Lowest.l0 k l0 a1 bD 0))=some (r1,r2):=h;clear h;replace H:=Option.bind_eq_some_iff.mp H;obtain⟨bD,dG,H⟩:=H;replace H:(spec_l09Lowest.l0 k l0 a1 bD 0)=some (r1,r2):=H;have A3:=A' dG;clear dG;have H':=A' H;clear H;go_enter Try.func98,Try.ntmps98;go_wp2_with (first|((with_reducible refine gate_dst (N:=4) rfl ?_);refine box_event ?hg (N:=4) ?hd (cs:=#[.slice none 0 0,.int .i64 0]) (t:=44) ?hr ?_;(case hd=>rfl);(case hg=>rfl);(case hr=>first|(go_simp;done)|(go_simp;rfl));intro aG hg w4 hbox hb;have n0_:=A' (W' (qK0 HB.out) hb);have n1_:=A' (hbox);have n2_:=A' ((by rw[hg];exact(V' (qK0 HB.out)):w.heap.size≤aG));have n3_:=A' ((by rw[hg];exact(V' (qK0 HB.out)):w.heap.size≤aG));clear HB;have HB:=n0_;have aA:=n1_;have dB:=n2_;have aJ:=n3_;clear n0_ n1_ n2_ n3_;clear hb hbox hg)|((with_reducible refine gate_callee (f:=104) rfl ?_);refine goesL_ (some 10) rfl rfl Try.func104 (by kernel_rfl) rfl #[.int .i64 a1] rfl (by(try simp only[List.map_toArray,List.map_cons,List.map_nil]);first|done|rfl|(simp only[List.length_drop,List.length_take];rfl)) ?_;(with_reducible refine(spec_l00Size.calls a1 bD _ A3.out).mono ?_);rintro e w' ⟨rfl,⟨nd,rfl⟩⟩;refine⟨_,rfl,?_⟩))
 go_loopg [5,6] k (fun kq v5 v6 w'=>∃(aX:Int) (aM:Int),v5= .int .i64 aX∧v6= .int .i64 aM∧Aside0 (spec_l09Lowest.l0 kq l0 a1 aX aM=some (r1,r2))∧Aside0 (kq≤k)∧Aside0 (w'.heap[aG]? =some (.cells #[(.slice none 0 0),.int .i64 0] 44 (0,0)))∧Aside0 (Below w.heap.size w w'))
 case atStart=>exact⟨(bD),(0),qS,qS,H',⟨Nat.le_refl _⟩,⟨qB aA.out⟩,⟨qK1 HB.out aJ.out⟩⟩
 case round=>
  clear H';try clear c1
  try clear p2
  obtain⟨aX,aM,rfl,rfl,HA,bT,aA,HB⟩:=hrel
  cases gk with
  |zero=>exact absurd HA.out (by simp[spec_l09Lowest.l0])
  |succ k1=>
   have H:=HA.out;clear HA;simp only[spec_l09Lowest.l0]at H
   by_cases c5:aM<(l0.length:Int)
   ·rw[if_pos c5]at H;have c5b0:decide (aM<(l0.length:Int))=true:=dT' c5;clear c5
    by_cases c6:0≤aM
    ·rw[if_pos c6]at H;have c6b0:decide (0≤aM)=true:=dT' c6;clear c6;replace H:=Option.bind_eq_some_iff.mp H;obtain⟨bG,cS,H⟩:=H;replace H:((spec_l00Gcd.f k1 aX bG).bind fun aZ=>(spec_l09Lowest.l0 k1 l0 a1 aZ (wrap64 (aM+1))))=some (r1,r2):=H;have A7:=A' cS;clear cS;replace H:=Option.bind_eq_some_iff.mp H;obtain⟨aZ,cR,H⟩:=H;replace H:(spec_l09Lowest.l0 k1 l0 a1 aZ (wrap64 (aM+1)))=some (r1,r2):=H;have A8:=A' cR;clear cR;have H':=A' H;clear H;have bE:0≤(aM:Int):=oD' qA;have bA:aM<(l0.length:Int):=oD' qA;obtain⟨dA,cL,aQ⟩:=Kd.at_int cZ.out aM bE bA
     cases cL
     try replace aQ:=qC HB.out aQ
     replace bE:=eq_true bE;replace bA:=eq_true bA;go_wp2_with (first|((with_reducible refine gate_callee (f:=104) rfl ?_);refine goesL_ (some 22) rfl rfl Try.func104 (by kernel_rfl) rfl #[.int .i64 (rd l0 aM)] rfl (by(try simp only[List.map_toArray,List.map_cons,List.map_nil]);first|done|rfl|(simp only[List.length_drop,List.length_take];rfl)) ?_;(with_reducible refine(spec_l00Size.calls (rd l0 aM) bG _ A7.out).mono ?_);rintro e w' ⟨rfl,⟨nd,rfl⟩⟩;refine⟨_,rfl,?_⟩)|((with_reducible refine gate_callee (f:=103) rfl ?_);refine goesL_ (some 23) rfl rfl Try.func103 (by kernel_rfl) rfl #[.int .i64 aX,.int .i64 bG] rfl (by(try simp only[List.map_toArray,List.map_cons,List.map_nil]);first|done|rfl|(simp only[List.length_drop,List.length_take];rfl)) ?_;(with_reducible refine(spec_l00Gcd.calls k1 aX bG aZ _ A8.out).mono ?_);rintro e w' ⟨rfl,⟨nd,rfl⟩⟩;refine⟨_,rfl,?_⟩))
     go_roundg k1
     case measure=>have:=bT.out;omega
     case rel=>exact⟨(aZ),(wrap64 (aM+1)),qS,qS,H',⟨by have:=bT.out;omega⟩,⟨qB aA.out⟩,⟨qK1 HB.out aJ.out⟩⟩
    ·rw[if_neg c6]at H;exact absurd H (by simp)
   ·rw[if_neg c5]at H;have c5b0:decide (aM<(l0.length:Int))=false:=dF' c5;clear c5;have cK:=A' H;clear H;go_upto_if 25 with (fail)
    go_cut [5] (fun v5 wc=>∃(kq:Nat) (aE:Int),v5= .int .i64 aE∧Aside0 (spec_l09Lowest.j1 kq l0 a1 aE=some (r1,r2))∧Aside0 (kq≤k1)∧Aside0 (wc.heap[aG]? =some (.cells #[(.slice none 0 0),.int .i64 0] 44 (0,0)))∧Aside0 (Below w.heap.size w wc))
    case first=>
     have H:=cK.out;clear cK
     by_cases c10:a1<0
     ·rw[if_pos c10]at H;have c10b0:decide (a1<0)=true:=dT' c10;clear c10;(first|rw[c10b0]|(simp only[i64_w,i32_w];rw[c10b0])|skip);have H':=A' H;clear H;go_wp2
      go_meet
      case rel=>exact⟨_,(wrap64 (-aX)),qS,H',⟨by have:=bT.out;first|omega|exact Nat.le_refl _⟩,⟨qB aA.out⟩,⟨qK1 HB.out aJ.out⟩⟩
     ·rw[if_neg c10]at H;have c10b0:decide (a1<0)=false:=dF' c10;clear c10;(first|rw[c10b0]|(simp only[i64_w,i32_w];rw[c10b0])|skip);have H':=A' H;clear H;go_wp2
      go_meet
      case rel=>exact⟨_,(aX),qS,H',⟨by have:=bT.out;first|omega|exact Nat.le_refl _⟩,⟨qB aA.out⟩,⟨qK1 HB.out aJ.out⟩⟩
    case rest=>
     clear cK;try clear c1
     try clear p2
     try clear p3
     try clear q3
     try clear hx3
     try clear c5
     try clear c5b0
     try clear c6
     try clear c6b0
     try clear p6
     try clear c9
     try clear c10
     try clear c10b0
     try clear aQ
     try clear p2
     try clear bE
     try clear bA
     obtain⟨kq,aE,rfl,HA,dF,aA,HB⟩:=hcut
     cases kq with
     |zero=>exact absurd HA.out (by simp[spec_l09Lowest.j1])
     |succ cO=>
      have H:=HA.out;clear HA;simp only[spec_l09Lowest.j1]at H;obtain⟨bC,aU⟩: ∃y_:List Int,y_=(([]:List Int)):=⟨_,rfl⟩
      replace H:(if aE=0 then(none)else(spec_l09Lowest.l1 cO l0 aE 0 bC (wrap64 (Int.tdiv a1 aE))))=some (r1,r2):=by first|(rw[aU];with_reducible exact H)|(have H2_:=(Option.bind_some _ _).symm.trans H;rw[aU];with_reducible exact H2_)|(have H2_:=(Option.bind_some _ _).symm.trans H;with_reducible exact H2_)|with_reducible exact H|(rw[aU];exact H)|exact H
      have bL:=A' aU;clear aU
      by_cases c11:aE=0
      ·rw[if_pos c11]at H;exact absurd H (by simp)
      ·rw[if_neg c11]at H;have c11b0:(aE == 0)=false:=beq_eq_false_iff_ne.mpr c11;have c11b1:(aE != 0)=true:=bne_iff_ne.mpr c11;have H':=A' H;clear H;go_wp2_with (first|((with_reducible refine gate_dst (N:=28) rfl ?_);refine Kd.R_lit (Kd.int .i64) _ 2 ?hg (N:=28) ?hd (xs:=([]:List Int)) (inner:=[]) (ok:=fun _=>True) (okp:=fun _=>True) ?hr ?hp (fun _ hk=>hk) trivial (Below.refl _ _) (Nat.le_refl _) (by simp) ?_;(case hd=>rfl);(case hg=>rfl);(case hr=>first|(go_simp;done)|(go_simp;rfl));(case hp=>exact(Reps.none _ _));intro dH dM bB hb hg_ hnew_;clear hg_ hnew_;(first|rw[← bL.out]at bB|(simp only[Int.reduceToNat]at bB;rw[← bL.out]at bB));have n0_:=A' (Kd.R_lower bB (V' (qK1 HB.out aJ.out)));have n1_:=A' (O' (g:=aG) (qB aA.out) hb);have n2_:=A' (W' (qK1 HB.out aJ.out) hb);clear aA;clear HB;have aW:=n0_;have aA:=n1_;have HB:=n2_;clear n0_ n1_ n2_;clear hb bB;obtain⟨bO,bS,cN⟩:=Kd.R_slice aW.out;subst cN)|((with_reducible refine gate_dst (N:=7) rfl ?_);refine box_event ?hg (N:=7) ?hd (cs:=#[.slice none 0 0,.int .i64 0]) (t:=44) ?hr ?_;(case hd=>rfl);(case hg=>rfl);(case hr=>first|(go_simp;done)|(go_simp;rfl));intro aH hg cY hbox hb;have n0_:=A' (L' (qR aW.out) hb);have n1_:=A' (O' (g:=aG) (qB aA.out) hb);have n2_:=A' (W' (qK1 HB.out aJ.out) hb);have n3_:=A' (hbox);have n4_:=A' ((by rw[hg];exact(V' (qK1 HB.out aJ.out)):w.heap.size≤aH));have n5_:=A' ((by rw[hg];exact(V' (qK1 HB.out aJ.out)):w.heap.size≤aH));have n6_:=A' ((by rw[hg];exact Nat.ne_of_lt (bL' (g:=aG) (qB aA.out)):aG≠aH));have n7_:=A' ((by rw[hg];exact Nat.ne_of_gt (bL' (g:=aG) (qB aA.out)):aH≠aG));clear aW;clear aA;clear HB;have aW:=n0_;have aA:=n1_;have HB:=n2_;have aC:=n3_;have cQ:=n4_;have aV:=n5_;have aI:=n6_;have aN:=n7_;clear n0_ n1_ n2_ n3_ n4_ n5_ n6_ n7_;clear hb hbox hg;have dC:=aN.out;have cT:=aI.out;have bJ:cY.cell? ⟨aH,0,none⟩=some (.slice none 0 0):=(N' aC.out 0).trans rfl;have bH:cY.cell? ⟨aH,1,none⟩=some (.int .i64 0):=(N' aC.out 1).trans rfl;have bK:=Y' aC.out 0;have bI:=Y' aC.out 1))
       go_loopg [8] cO (fun kq v8 w'=>∃(aK:Int) (aD:List Int) (u327000:Value),v8= .int .i64 aK∧Aside0 (spec_l09Lowest.l1 kq l0 aE aK aD (wrap64 (Int.tdiv a1 aE))=some (r1,r2))∧Aside0 (kq≤cO)∧Aside0 (Kd.R (Kd.int .i64) 2 w' w.heap.size (fun _=>True) u327000 aD)∧Aside0 (w'.heap[aG]? =some (.cells #[(.slice none 0 0),.int .i64 0] 44 (0,0)))∧Aside0 (w'.heap[aH]? =some (.cells #[u327000,.int .i64 (wrap64 (Int.tdiv a1 aE))] 44 (0,0)))∧Aside0 (Below w.heap.size w w'))
       case atStart=>exact⟨(0),(bC),(.slice bO bC.length bS),qS,H',⟨Nat.le_refl _⟩,⟨by(with_reducible repeat(first|apply B'|apply C'|apply D'));exact Q' (M' (p:=⟨aH,1,none⟩) (M' (p:=⟨aH,0,none⟩) (P' aW.out aC.out (by decide)) (fun _ hk=>hk.2) (.slice bO bC.length bS)) (fun _ hk=>hk.2) (.int .i64 (wrap64 (Int.tdiv a1 aE)))) (fun _ hk=>trivial)⟩,⟨qG2 aA.out aI.out aI.out⟩,⟨by(with_reducible repeat(first|refine G' ?_ _|refine I' ?_|refine hA' ?_ _));refine blk_put (cs:=#[.slice bO bC.length bS,.int .i64 0]) ?_ 1 _ rfl;(with_reducible repeat(first|refine G' ?_ _|refine I' ?_|refine hA' ?_ _));refine blk_put (cs:=#[.slice none 0 0,.int .i64 0]) ?_ 0 _ rfl;(with_reducible repeat(first|refine G' ?_ _|refine I' ?_|refine hA' ?_ _));exact aC.out⟩,⟨qK2 HB.out aJ.out aV.out⟩⟩
       case round=>
        clear H';try clear c1
        try clear p2
        try clear p3
        try clear q3
        try clear hx3
        try clear c5
        try clear c5b0
        try clear c6
        try clear c6b0
        try clear p6
        try clear c9
        try clear c10
        try clear c10b0
        try clear c11
        try clear c11b0
        try clear c11b1
        try clear c16
        try clear bJ
        try clear bH
        try clear bK
        try clear bI
        try clear aQ
        try clear p2
        try clear p3
        try clear bE
        try clear p6
        try clear q3
        try clear bA
        obtain⟨aK,aD,u327000,rfl,HA,cX,HO_327000,aA,aC,HB⟩:=hrel
        cases gk with
        |zero=>exact absurd HA.out (by simp[spec_l09Lowest.l1])
        |succ k3=>
         have H:=HA.out;clear HA;simp only[spec_l09Lowest.l1]at H
         by_cases c18:aK<(l0.length:Int)
         ·rw[if_pos c18]at H;have c18b0:decide (aK<(l0.length:Int))=true:=dT' c18;clear c18
          by_cases c19:0≤aK
          ·rw[if_pos c19]at H;have c19b0:decide (0≤aK)=true:=dT' c19;clear c19
           by_cases c20:aE=0
           ·rw[if_pos c20]at H;exact absurd H (by simp)
           ·rw[if_neg c20]at H;have c20b0:(aE == 0)=false:=beq_eq_false_iff_ne.mpr c20;have c20b1:(aE != 0)=true:=bne_iff_ne.mpr c20
            by_cases c21:aD.length<17592186044416
            ·rw[if_pos c21]at H;have bW:=A' c21;clear c21;obtain⟨bF,aY⟩: ∃y_:List Int,y_=(aD ++ [wrap64 (Int.tdiv (rd l0 aK) aE)]):=⟨_,rfl⟩
             replace H:(spec_l09Lowest.l1 k3 l0 aE (wrap64 (aK+1)) bF (wrap64 (Int.tdiv a1 aE)))=some (r1,r2):=by first|(rw[aY];with_reducible exact H)|(have H2_:=(Option.bind_some _ _).symm.trans H;rw[aY];with_reducible exact H2_)|(have H2_:=(Option.bind_some _ _).symm.trans H;with_reducible exact H2_)|with_reducible exact H|(rw[aY];exact H)|exact H
             have bU:=A' aY;clear aY;have H':=A' H;clear H;try go_wp2
             replace HO_327000:=A' (D' HO_327000.out);replace aA:=A' (I' aA.out);replace aC:=A' (I' aC.out);replace HB:=A' (J' HB.out);have bP:0≤(aK:Int):=oD' qA;have bR:aK<(l0.length:Int):=oD' qA;obtain⟨bX,cM,aR⟩:=Kd.at_int cZ.out aK bP bR;have aT:=aR
             cases cM
             try replace aR:=qC HB.out aR
             replace bP:=eq_true bP;replace bR:=eq_true bR;refine start_ (n:=12) (S:=fun w'=>w'.cell? ⟨aH,0,none⟩=some (u327000)∧w'.cell? ⟨aH,1,none⟩=some (.int .i64 (wrap64 (Int.tdiv a1 aE)))∧w'.cell? (bX.add (aK).toNat)=some (.int .i64 (rd l0 aK))) (ds:=[11]) #[n',n',n',n',n',n',n',n',n',n',n',n'] (by kernel_rfl) rfl rfl ⟨(N' aC.out 0).trans rfl,(N' aC.out 1).trans rfl,(qC HB.out aT:)⟩ (fun hHeld=>?_);refine with_tabW spec_l09Lowest.tab12 spec_l09Lowest.bits12 (fun HT_ HW_=>?_)
             generalize wr.drew=w22 at HO_327000 aA aC HB aR hHeld ⊢
             refine pure_ (i:=0) (N:=some 39) (v:=?_) (a':=?_) #[y',n',n',n',n',n',n',n',n',n',n',n'] rfl rfl (any_of HT_.out (by kernel_rfl)) (fun _ _ _ h=>h) (Or.inl ⟨by rfl,?_⟩) ?_ ?_;rotate_left
             ·exact qI
             rotate_left
             ·exact qP
             refine pure_ (i:=2) (N:=some 41) (v:=?_) (a':=?_) #[y',n',y',n',n',n',n',n',n',n',n',n'] rfl rfl (any_of HT_.out (by kernel_rfl)) (fun _ _ _ h=>h) (Or.inl ⟨by rfl,?_⟩) ?_ ?_;rotate_left
             ·exact qI
             rotate_left
             ·exact qP
             refine pure_ (i:=3) (N:=some 42) (v:=?_) (a':=?_) #[y',n',y',y',n',n',n',n',n',n',n',n'] rfl rfl (any_of HT_.out (by kernel_rfl)) (fun _ _ _ h=>h) (Or.inl ⟨by rfl,?_⟩) ?_ ?_;rotate_left
             ·exact qI
             rotate_left
             ·exact qP
             refine pure_ (i:=4) (N:=some 43) (v:=?_) (a':=?_) #[y',n',y',y',y',n',n',n',n',n',n',n'] rfl rfl (any_of HT_.out (by kernel_rfl)) (fun _ _ _ h=>h) (Or.inl ⟨by rfl,?_⟩) ?_ ?_;rotate_left
             ·exact qI
             rotate_left
             ·exact qP
             refine pure_ (i:=6) (N:=some 45) (v:=?_) (a':=?_) #[y',n',y',y',y',n',y',n',n',n',n',n'] rfl rfl (any_of HT_.out (by kernel_rfl)) (fun _ _ _ h=>h) (Or.inl ⟨by rfl,?_⟩) ?_ ?_;rotate_left
             ·exact qI
             rotate_left
             ·exact qP
             refine take_ (i:=1) (N:=some 40) (v:=?_) (a':=?_) #[y',y',y',y',y',n',y',n',n',n',n',n'] rfl rfl (take_ofW HT_.out HW_.out (by kernel_rfl)) (fun _ _ _ h=>h) (Or.inl ⟨by rfl,?_⟩) hHeld ?_ ?_;rotate_left
             ·rintro w' ⟨s0,s1,s2⟩;go_simp;with_reducible rfl
             rotate_left
             ·exact qP
             refine take_ (i:=5) (N:=some 44) (v:=?_) (a':=?_) #[y',y',y',y',y',y',y',n',n',n',n',n'] rfl rfl (take_ofW HT_.out HW_.out (by kernel_rfl)) (fun _ _ _ h=>h) (Or.inl ⟨by rfl,?_⟩) hHeld ?_ ?_;rotate_left
             ·rintro w' ⟨s0,s1,s2⟩;go_simp;with_reducible rfl
             rotate_left
             ·exact qP
             refine pure_ (i:=7) (N:=some 46) (v:=?_) (a':=?_) #[y',y',y',y',y',y',y',y',n',n',n',n'] rfl rfl (any_of HT_.out (by kernel_rfl)) (fun _ _ _ h=>h) (Or.inl ⟨by rfl,?_⟩) ?_ ?_;rotate_left
             ·exact qI
             rotate_left
             ·exact qP
             refine one_ (i:=8) (N:=some 47) #[y',y',y',y',y',y',y',y',y',n',n',n'] rfl rfl (one_of HT_.out (by kernel_rfl)) (by decide) (fun K hK=>?_);refine value_ (w1:=?_) (v:=?_) (by rfl) rfl ?_ ?_;rotate_left 2
             ·go_simp
              constructor
              ·rfl
              ·rfl
             refine hK.out _ _ ⟨(N' (hA' aC.out _) 0).trans rfl,(N' (hA' aC.out _) 1).trans rfl,(World.cell?_alloc_lt _ _ _ (World.block_lt_of_cell? _ _ ((qC HB.out aT:)))).trans ((qC HB.out aT:))⟩ (fun hHeld=>?_);clear hK K;refine norm_ (a':=?_) ?_ ?_;rotate_left
             ·show Act.put _ (some 47) _=_
              exact qP
             refine one_ (i:=9) (N:=some 48) #[y',y',y',y',y',y',y',y',y',y',n',n'] rfl rfl (one_of HT_.out (by kernel_rfl)) (by decide) (fun K hK=>?_);refine Kd.R_append_step (Kd.int .i64) (w0:=w) w.heap.size (by rfl) (.tmp 40) (.tmp 47) 26 2 (.int .i64 0) 8 rfl Try.underlying26 info2 rfl (by decide) (by omega) u327000 aD (wrap64 (Int.tdiv (rd l0 aK) aE)) [.int .i64 (wrap64 (Int.tdiv (rd l0 aK) aE))] (fun _=>True) (fun _=>False) rfl rfl ?aP (fun _ hk=>hk.elim) ?aF ?aO ?aB ?aS ?aL ?_;(case aP=>exact rfl);(case aB=>exact(qK2 HB.out aJ.out aV.out));(case aF=>exact(fun _ _=>trivial));(case aO=>exact(qR HO_327000.out));(case aS=>exact(V' (qK2 HB.out aJ.out aV.out)));(case aL=>have:=bW.out;omega);intro dI dL ho hb hg hat;rw[← bU.out]at ho;have n0_:=A' (blk_grown (g:=aG) (o:=.cells #[.slice none 0 0,.int .i64 0] 44 (0,0)) (qB aA.out) hg (Kd.R_ne HO_327000.out aA.out (by decide)));have n1_:=A' (blk_grown (g:=aH) (o:=.cells #[u327000,.int .i64 (wrap64 (Int.tdiv a1 aE))] 44 (0,0)) (qB aC.out) hg (Kd.R_ne HO_327000.out aC.out (by decide)));have n2_:=A' (hb);have n3_:=A' (ho);clear aA;clear aC;clear HB;clear HO_327000;have aA:=n0_;have aC:=n1_;have HB:=n2_;have bM:=n3_;clear n0_ n1_ n2_ n3_;clear ho hb hg hat;obtain⟨bV,bY,bZ⟩:=Kd.R_slice bM.out;(first|subst bZ|(injection bZ with f1_ f2_ f3_;have f4_:=f1_.symm;have f5_:=f3_.symm;clear f1_ f2_ f3_;subst f4_;subst f5_));refine hK.out _ _ ⟨(N' aC.out 0).trans rfl,(N' aC.out 1).trans rfl,(qC HB.out aT:)⟩ (fun hHeld=>?_);clear hK K;refine norm_ (a':=?_) ?_ ?_;rotate_left
             ·show Act.put _ (some 48) _=_
              exact qP
             refine pure_ (i:=10) (N:=some 49) (v:=?_) (a':=?_) #[y',y',y',y',y',y',y',y',y',y',y',n'] rfl rfl (any_of HT_.out (by kernel_rfl)) (fun _ _ _ h=>h) (Or.inl ⟨by rfl,?_⟩) ?_ ?_;rotate_left
             ·exact qI
             rotate_left
             ·exact qP
             refine last_ (i:=11) (N:=none) #[y',y',y',y',y',y',y',y',y',y',y',y'] rfl rfl (one_of HT_.out (by kernel_rfl)) (by decide) (fun K hK=>?_);have dJ:dL.cell? ⟨aH,0,none⟩=some (u327000):=(N' aC.out 0).trans rfl;have cW:=Y' aC.out 0;have cB:=aI.out;have cD:=aN.out;refine skip_ (w1:=?_) (by rfl) rfl ?_ ?_;rotate_left
             ·go_simp
              rfl
             refine hK.out _ _ ?_;clear hK K;refine done_ (done_of HT_.out (by kernel_rfl)) ?_;try go_wp2
             go_roundg k3
             case measure=>have:=bT.out;have:=dF.out;have:=cX.out;omega
             case rel=>exact⟨(wrap64 (aK+1)),(bF),(.slice bV bF.length bY),qS,H',⟨by have:=bT.out;have:=dF.out;have:=cX.out;omega⟩,⟨by(with_reducible repeat(first|apply B'|apply C'|apply D'));exact Q' (M' (p:=⟨aH,0,none⟩) (P' bM.out aC.out (by decide)) (fun _ hk=>hk.2) (.slice bV bF.length bY)) (fun _ hk=>trivial)⟩,⟨qG1 aA.out aI.out⟩,⟨by(with_reducible repeat(first|refine G' ?_ _|refine I' ?_|refine hA' ?_ _));refine blk_put (cs:=#[u327000,.int .i64 (wrap64 (Int.tdiv a1 aE))]) ?_ 0 _ rfl;(with_reducible repeat(first|refine G' ?_ _|refine I' ?_|refine hA' ?_ _));exact aC.out⟩,⟨qK2 HB.out aJ.out aV.out⟩⟩
            ·rw[if_neg c21]at H;exact absurd H (by simp)
          ·rw[if_neg c19]at H;exact absurd H (by simp)
         ·rw[if_neg c18]at H;have c18b0:decide (aK<(l0.length:Int))=false:=dF' c18;clear c18;simp only[Option.some.injEq,Prod.mk.injEq]at H;obtain⟨rfl,rfl⟩:=H;have dE:=aN.out;have cV:=aI.out;have cF:wr.cell? ⟨aH,0,none⟩=some (u327000):=(N' aC.out 0).trans rfl;have cG:wr.cell? ⟨aH,1,none⟩=some (.int .i64 (wrap64 (Int.tdiv a1 aE))):=(N' aC.out 1).trans rfl;have cC:=Y' aC.out 0;have cE:=Y' aC.out 1;obtain⟨bQ,bN,cP⟩:=Kd.R_slice HO_327000.out;subst cP;have cH:wr.cell? ⟨aG,0,none⟩=some (.slice none 0 0):=(N' aA.out 0).trans rfl;have cJ:wr.cell? ⟨aG,1,none⟩=some (.int .i64 0):=(N' aA.out 1).trans rfl;have cA:=Y' aA.out 0;have cI:=Y' aA.out 1;go_wp2;refine bodyPost_ret (results_cell_row rfl _ _ aG 44 #[.slice bQ aD.length bN,.int .i64 (wrap64 (Int.tdiv a1 aE))] (0,0) _ rfl (by(with_reducible repeat(first|refine G' ?_ _|refine I' ?_|refine hA' ?_ _));refine blk_put (cs:=#[.slice bQ aD.length bN,.int .i64 0]) ?_ 1 _ rfl;(with_reducible repeat(first|refine G' ?_ _|refine I' ?_|refine hA' ?_ _));refine blk_put (cs:=#[.slice none 0 0,.int .i64 0]) ?_ 0 _ rfl;(with_reducible repeat(first|refine G' ?_ _|refine I' ?_|refine hA' ?_ _));exact aA.out) Try.underlying44 rfl (by kernel_rfl)) rfl ?_;exact⟨_,qE,by(with_reducible repeat(first|apply B'|apply C'|apply D'));exact Q' (M' (p:=⟨aG,1,none⟩) (M' (p:=⟨aG,0,none⟩) (P' HO_327000.out aA.out (by decide)) (fun _ hk=>hk.2) (.slice bQ aD.length bN)) (fun _ hk=>hk.2) (.int .i64 (wrap64 (Int.tdiv a1 aE)))) (fun _ hk=>trivial),qK2 HB.out aJ.out aV.out⟩
/-! ### spec_l09Solve: function 62 (by hand) -/
def slvL (nb:Nat) (bars:List Int) (X:Nat→Int):Nat→List Int
 |0=>List.replicate nb 0
 |i+1=>(slvL nb bars X i).set (rd bars (i:Int)).toNat (X i)
theorem slvL_len (nb:Nat) (bars:List Int) (X:Nat→Int): ∀i,(slvL nb bars X i).length=nb
 |0=>by simp[slvL]
 |i+1=>by rw[slvL,List.length_set,slvL_len nb bars X i]
open Go.Proofs.Ytebbdadpgapobaa.Elim in
def spec_l09Solve.f (k:Nat) (ks:List S90) (bs:List S104) (ld:List S76) (bars:List Int):Option (List Int×Int×Bool):=
 if TOk ks bs ld bars then
  (if(El (2*(frI ks).length) (tblM ks bs ld bars) bars.length).t<bars.length then some ([],0,false)
   else(if∀i,bars.length≤i→i<2*(frI ks).length→(El (2*(frI ks).length) (tblM ks bs ld bars) bars.length).M i bars.length=0 then
    (spec_l09Lowest.f k (slvL bs.length bars (fun i=>(El (2*(frI ks).length) (tblM ks bs ld bars) bars.length).M i bars.length) bars.length) (El (2*(frI ks).length) (tblM ks bs ld bars) bars.length).d).bind fun t=>some (t.1,t.2,true)
    else some ([],0,false)))
 else none
theorem spec_l09Solve.mono: ∀a0 a1 a2 a3 k,LeO (spec_l09Solve.f k a0 a1 a2 a3) (spec_l09Solve.f (k+1) a0 a1 a2 a3):=by
 intro a0 a1 a2 a3 k
 unfold spec_l09Solve.f
 by_cases h:TOk a0 a1 a2 a3
 ·rw[if_pos h,if_pos h]
  split
  ·exact LeO.refl _
  ·split
   ·exact LeO.bind (spec_l09Lowest.mono _ _ _) (fun _=>LeO.refl _)
   ·exact LeO.refl _
 ·rw[if_neg h,if_neg h];exact LeO.refl _
section
open Go.Proofs.Ytebbdadpgapobaa.Red Go.Proofs.Ytebbdadpgapobaa.Elim
set_option maxHeartbeats 2000000 in
set_option maxRecDepth 100000 in
theorem spec_l09Solve.calls (k:Nat) (aX:Nat) (aI:Option Addr) (aK:Nat) (aB:List S90) (aG:Option Addr) (aL:Nat) (aA:List S104) (A1:Option Addr) (c1:Nat) (l1:List S76) (A2:Option Addr) (c2:Nat) (l2:List Int) (r1:List Int) (r2:Int) (r3:Bool) (w:World)
 (bF:w.heap[aX]? =some (.cells #[.slice aI aB.length aK,.slice aG aA.length aL] 33 (0,0))) (aF:Kd.C k90 w aI aB.length aB) (aP:aB.length≤aK) (aE:Kd.C k104 w aG aA.length aA) (aM:aA.length≤aL) (bA:Kd.C k76 w A1 l1.length l1) (bM:l1.length≤c1) (bD:Kd.C (Kd.int .i64) w A2 l2.length l2) (bL:l2.length≤c2) (h:spec_l09Solve.f k aB aA l1 l2=some (r1,r2,r3)):
 Calls Try.prog 62 #[.pointer (some ⟨aX,0,none⟩),.slice A1 l1.length c1,.slice A2 l2.length c2] w fun e w'=>∃v0_:Value,e= .returned (.tuple #[.agg #[v0_,.int .i64 r2],.bool r3])∧Kd.R (Kd.int .i64) 2 w' w.heap.size (fun _=>True) v0_ r1∧Below w.heap.size w w':=by
 unfold spec_l09Solve.f at h
 by_cases hk:TOk aB aA l1 l2
 ·rw[if_pos hk]at h
  have hF:=tblM_fit hk
  obtain⟨n,hn⟩: ∃n,n=2*(frI aB).length:=⟨_,rfl⟩
  obtain⟨m,hm⟩: ∃m,m=l2.length:=⟨_,rfl⟩
  obtain⟨nb,hnb⟩: ∃nb,nb=aA.length:=⟨_,rfl⟩
  obtain⟨M0,aS⟩: ∃M0,M0=tblM aB aA l1 l2:=⟨_,rfl⟩
  rw[← hn,← hm,← aS]at hF
  rw[← hn,← hm,← aS,← hnb]at h
  obtain⟨s,hs⟩: ∃s,s=El n M0 m:=⟨_,rfl⟩
  rw[← hs]at h
  have H:=Aside0.mk h
  have H0:=Aside0.mk (And.intro hk (And.intro hF (And.intro hn (And.intro hm (And.intro aS (And.intro hnb hs))))))
  have HR:=Aside0.mk (And.intro bF (And.intro aF (And.intro aE (And.intro bA bD))))
  have ht:=hF.tc m (Nat.le_refl _)
  rw[← hs]at ht
  have HTC:=Aside0.mk ht
  rw[← hm]
  clear ht hk hF hn hm aS hnb hs h bF aF aE bA bD aP aM bM bL
  go_enter Try.func62,Try.ntmps62
  go_upto_region 1 with (fail)
  obtain⟨g6,aV⟩: ∃g,g=w.heap.size:=⟨_,rfl⟩
  obtain⟨w1,aQ⟩: ∃w1,w1=w.alloc (.cells #[.slice none 0 0,.int .i64 0] 44):=⟨_,rfl⟩
  rw[← aV,← aQ]
  have HD:=Aside0.mk (show w1.heap[g6]? =some (.cells #[.slice none 0 0,.int .i64 0] 44 (0,0))∧w.heap.size≤g6∧g6<w1.heap.size∧Below w.heap.size w w1 from by
   have e:w1.heap.size=w.heap.size+1:=by rw[aQ];exact size_alloc _ _
   exact⟨by rw[aQ,aV];exact alloc_at _ _,by omega,by omega,by rw[aQ];exact below_alloc (Below.refl _ _) _⟩)
  clear aV aQ
  go_upto_region 3 with (first
   |(go_at_call 89;have hT_:=table_calls aX aI aK aB aG aL aA A1 c1 l1 A2 c2 l2 w1 H0.out.1 (blk_below HR.out.1 HD.out.2.2.2) (Kd.C_below HR.out.2.1 HD.out.2.2.2) (Kd.C_below HR.out.2.2.1 HD.out.2.2.2) (Kd.C_below HR.out.2.2.2.1 HD.out.2.2.2) (Kd.C_below HR.out.2.2.2.2 HD.out.2.2.2);rw[← H0.out.2.2.2.1]at hT_;refine hT_.mono ?_;clear hT_;rintro e w2 ⟨gm,g,cap,A,b,cc,rfl,hgm,hA,hTB,hb⟩;rw[← H0.out.2.2.1,← H0.out.2.2.2.1]at hgm;rw[← H0.out.2.2.1]at hA;rw[← H0.out.2.2.1,← H0.out.2.2.2.1,← H0.out.2.2.2.2.1]at hTB;have HT:=Aside0.mk (And.intro hgm (And.intro hA (And.intro hTB hb)));clear hgm hA hTB hb)
   |(go_at_call 90;refine(reduce_calls (w0:=w1) H0.out.2.1 (by rw[H0.out.2.2.2.1];exact H0.out.1.b8) rfl HT.out.2.1 HT.out.2.2.1 HT.out.1 HT.out.2.2.2).mono ?_;rintro e w3 ⟨v3,pv,rfl,hpv,hl,⟨b3,aR,aW⟩,aN,hb⟩;rw[← H0.out.2.2.2.2.2.2]at hl aW ⊢;obtain⟨A3,c3,bE⟩:=Kd.R_slice hpv;rw[hl]at bE;subst bE;have HP:=Aside0.mk (And.intro aW (And.intro aN hb));clear hpv hl hb aW aN))
  have f6:=blk_below HD.out.1 HP.out.2.2
  have f6a:=blk_cell f6 0
  have f6b:=blk_cell f6 1
  have z6a:=blk_frozen f6 0
  have z6b:=blk_frozen f6 1
  simp only[List.getElem?_toArray,List.getElem?_cons_zero,List.getElem?_cons_succ]at f6a f6b
  by_cases c1:s.t<m
  ·have e:=H.out
   rw[if_pos c1]at e
   simp only[Option.some.injEq,Prod.mk.injEq]at e
   obtain⟨rfl,rfl,rfl⟩:=e
   have d1:(s.t<m)=True:=eq_true c1
   have F6:=Aside0.mk f6
   clear c1 f6
   go_wp2_with (fail)
   refine bodyPost_ret (results_ct rfl _ _ g6 44 #[.slice none 0 0,.int .i64 0] (0,0) _ rfl (by have t2:=blk_set (blk_set F6.out 0 (.slice none 0 0)) 1 (.int .i64 0);simpa using t2) Try.underlying44 rfl (by kernel_rfl)) rfl ?_
   exact⟨_,rfl,Kd.R_nil _ _ _ _ _,below_set (below_set (below_step HD.out.2.2.2 HP.out.2.2) HD.out.2.1) HD.out.2.1⟩
  ·have e:=H.out
   rw[if_neg c1]at e
   have H2:=Aside0.mk e
   have HS:=Aside0.mk (show s.t=m∧m≤n∧n≤6 from by
    have h1:=H0.out.2.1.tn m (Nat.le_refl _)
    rw[← H0.out.2.2.2.2.2.2]at h1
    have:=HTC.out;have:=H0.out.2.1.n6;omega)
   have d1:(s.t<m)=False:=eq_false c1
   have F6:=Aside0.mk f6
   clear c1 f6 e H f6a f6b z6a z6b
   go_wp2_with (fail)
   rw[HS.out.1]
   go_loopg [11] (n+1 - m) (fun kq bJ w'=>∃(i:Nat) (ii:Int),bJ= .int .i64 ii∧Aside0 (ii=(i:Int)∧m≤i∧i+kq=n+1∧1≤kq)∧Aside0 (TB 26 2 w1.heap.size g n (m+1) (m+1) b3 aR s.M w'∧w'.heap[gm]? =some (.cells #[.slice A n cap,.int .i64 (m:Int)] 137 (0,0))∧w'.heap[g6]? =some (.cells #[.slice none 0 0,.int .i64 0] 44 (0,0))∧Below w1.heap.size w1 w')∧Aside0 (∀q,m≤q→q<i→s.M q m=0))
   case atStart=>
    have hs:=HS.out
    exact⟨m,(m:Int),rfl,⟨rfl,Nat.le_refl _,by omega,by omega⟩,⟨HP.out.1,HP.out.2.1,F6.out,HP.out.2.2⟩,⟨fun q h1 h2=>absurd h2 (by omega)⟩⟩
   case round=>
    obtain⟨i,ii,rfl,HI,HJ,HZ⟩:=hrel
    obtain⟨gq,rfl⟩: ∃k,gk=k+1:=⟨gk - 1,by have:=HI.out;omega⟩
    have f0:=blk_cell HJ.out.2.1 0
    have f1:=blk_cell HJ.out.2.1 1
    simp only[List.getElem?_toArray,List.getElem?_cons_zero,List.getElem?_cons_succ]at f0 f1
    have bH:ii.toNat=i:=by have:=HI.out;omega
    have bK:=Aside0.mk bH
    clear bH
    by_cases c3:i<n
    ·have d2:decide (ii<(n:Int))=true:=decide_eq_true (by have:=HI.out;omega)
     have hA:=HT.out.2.1 (by omega)
     subst hA
     obtain⟨ml,hml⟩: ∃ml,ml=m+1:=⟨_,rfl⟩
     obtain⟨z,hz⟩: ∃z,z=s.M i m:=⟨_,rfl⟩
     have g0:wr.cell? ⟨g,ii.toNat,none⟩=some (.slice (some ⟨b3 i,0,none⟩) ml (aR i)):=by rw[bK.out,hml];exact HJ.out.1.head c3
     have g1:wr.cell? ⟨b3 i,m,none⟩=some (.int .i64 z):=by rw[hz];exact HJ.out.1.num c3 (by omega)
     have p1:(0≤ii)=True:=eq_true (by have:=HI.out;omega)
     have p2:(ii<(n:Int))=True:=eq_true (by have:=HI.out;omega)
     have p4:((m:Int)<(ml:Int))=True:=eq_true (by omega)
     have p5:(m<ml)=True:=eq_true (by omega)
     have HML:=Aside0.mk (And.intro hml hz)
     have C3:=Aside0.mk c3
     clear hml hz c3
     by_cases c4:z=0
     ·subst c4
      go_wp2_with (fail)
      go_quiet (fail)
      go_wp2_with (fail)
      go_roundg gq
      case measure=>omega
      case rel=>
       have h1:=HI.out;have h2:=HS.out;have h3:=C3.out
       have hw:=wrap_id (ii+1) (by omega) (by omega)
       have B:=pw_below_drewN (Below.refl wr.heap.size wr) nq
       refine⟨i+1,ii+1,by rw[hw],⟨by omega,by omega,by omega,by omega⟩,⟨HJ.out.1.below B,blk_below HJ.out.2.1 B,blk_below HJ.out.2.2.1 B,below_step HJ.out.2.2.2 B⟩,⟨fun q bI bR=>?_⟩⟩
       by_cases e:q=i
       ·rw[e];exact HML.out.2.symm
       ·exact HZ.out q bI (by omega)
     ·have c4b:(z != 0)=true:=bne_iff_ne.mpr c4
      have c4c:(z == 0)=false:=beq_eq_false_iff_ne.mpr c4
      have e:=H2.out
      rw[if_neg (fun hall=>c4 (by rw[HML.out.2];exact hall i HI.out.2.1 C3.out))]at e
      simp only[Option.some.injEq,Prod.mk.injEq]at e
      obtain⟨rfl,rfl,rfl⟩:=e
      clear c4
      have f6a:=blk_cell HJ.out.2.2.1 0
      have f6b:=blk_cell HJ.out.2.2.1 1
      have z6a:=blk_frozen HJ.out.2.2.1 0
      have z6b:=blk_frozen HJ.out.2.2.1 1
      simp only[List.getElem?_toArray,List.getElem?_cons_zero,List.getElem?_cons_succ]at f6a f6b
      go_wp2_with (fail)
      go_quiet (fail)
      obtain⟨w4,aY⟩: ∃w4,w4=wr.drewN nq:=⟨_,rfl⟩
      rw[← aY]
      have HQ:=Aside0.mk (show Below wr.heap.size wr w4 from by rw[aY];exact pw_below_drewN (Below.refl _ _) _)
      have f6:=blk_below HJ.out.2.2.1 HQ.out
      clear f6a f6b z6a z6b aY
      have f6a:=blk_cell f6 0
      have f6b:=blk_cell f6 1
      have z6a:=blk_frozen f6 0
      have z6b:=blk_frozen f6 1
      simp only[List.getElem?_toArray,List.getElem?_cons_zero,List.getElem?_cons_succ]at f6a f6b
      have F7:=Aside0.mk f6
      clear f6
      go_wp2_with (fail)
      refine bodyPost_ret (results_ct rfl _ _ g6 44 #[.slice none 0 0,.int .i64 0] (0,0) _ rfl (by have t2:=blk_set (blk_set F7.out 0 (.slice none 0 0)) 1 (.int .i64 0);simpa using t2) Try.underlying44 rfl (by kernel_rfl)) rfl ?_
      exact⟨_,rfl,Kd.R_nil _ _ _ _ _,below_set (below_set (below_step HD.out.2.2.2 (below_step HJ.out.2.2.2 HQ.out)) HD.out.2.1) HD.out.2.1⟩
    ·have hin:i=n:=by have:=HI.out;omega
     have d2:decide (ii<(n:Int))=false:=decide_eq_false (by have:=HI.out;omega)
     have e:=H2.out
     rw[if_pos (fun q h1 h2=>HZ.out q h1 (by omega))]at e
     obtain⟨⟨t1,t2⟩,ht,e⟩:=Option.bind_eq_some_iff.mp e
     simp only[Option.some.injEq,Prod.mk.injEq]at e
     obtain⟨rfl,rfl,rfl⟩:=e
     have HL:=Aside0.mk ht
     have q1:=blk_cell (blk_below (blk_below HR.out.1 HD.out.2.2.2) HJ.out.2.2.2) 1
     simp only[List.getElem?_toArray,List.getElem?_cons_zero,List.getElem?_cons_succ]at q1
     rw[← H0.out.2.2.2.2.2.1]at q1
     have HAP:=Aside0.mk (show(∀i,i<n→b3 i<wr.heap.size)∧(0<n→g<wr.heap.size)∧gm<wr.heap.size∧g6<wr.heap.size∧w1.heap.size≤wr.heap.size from
      ⟨fun i hi=>by obtain⟨cs,h1,_⟩:=HJ.out.1.rw i hi;exact blk_lt h1,fun hn=>by obtain⟨hdr,h1,_⟩:=HJ.out.1.hd hn;exact blk_lt h1,blk_lt HJ.out.2.1,blk_lt HJ.out.2.2.1,HJ.out.2.2.2.size⟩)
     clear ht c3 hin
     go_wp2_with ((with_reducible refine gate_dst (N:=60) rfl ?_);refine Kd.R_make (Kd.int .i64) _ 2 rfl (N:=60) rfl 26 _ _ rfl (nb:Int) rfl rfl Try.underlying26 (.int .i64 0) 8 info2 rfl (by decide) (by decide) 0 (ok:=fun _=>True) (okp:=fun _=>True) rfl (fun _ hk=>hk) trivial (by omega) (by have h1:=H0.out.1.bn;have h2:=H0.out.2.2.2.2.2.1;omega) (Below.refl _ _) (Nat.le_refl _) ?_;intro bQ w5 ho hb hg_ hnew_;clear hg_ hnew_;rw[Int.toNat_natCast]at ho;have HO:=Aside0.mk ho;have aU:=Aside0.mk hb;clear ho hb)
     obtain⟨bB,bG,aC⟩:=Kd.R_slice HO.out
     rw[List.length_replicate]at aC
     subst aC
     go_loopg [13] (m+1) (fun kq bN w'=>∃(j:Nat) (ji:Int),bN= .int .i64 ji∧Aside0 (ji=(j:Int)∧j+kq=m+1∧1≤kq)∧Aside0 (TB 26 2 w1.heap.size g n (m+1) (m+1) b3 aR s.M w'∧w'.heap[gm]? =some (.cells #[.slice A n cap,.int .i64 (m:Int)] 137 (0,0))∧w'.heap[g6]? =some (.cells #[.slice none 0 0,.int .i64 0] 44 (0,0))∧Below wr.heap.size wr w'∧Kd.R (Kd.int .i64) 2 w' wr.heap.size (fun _=>True) (.slice bB nb bG) (slvL nb l2 (fun i=>s.M i m) j)))
     case atStart=>
      exact⟨0,0,rfl,⟨rfl,by omega,by omega⟩,⟨HJ.out.1.below aU.out,blk_below HJ.out.2.1 aU.out,blk_below HJ.out.2.2.1 aU.out,aU.out,HO.out⟩⟩
     case round=>
      obtain⟨j,ji,rfl,HE,HK⟩:=hrel
      obtain⟨gr,rfl⟩: ∃k,gk=k+1:=⟨gk - 1,by have:=HE.out;omega⟩
      clear f0 f1 q1
      have f0:=blk_cell HK.out.2.1 0
      have f1:=blk_cell HK.out.2.1 1
      simp only[List.getElem?_toArray,List.getElem?_cons_zero,List.getElem?_cons_succ]at f0 f1
      have bC:ji.toNat=j:=by have:=HE.out;omega
      have bO:=Aside0.mk bC
      clear bC
      by_cases c5:j<m
      ·have d3:decide (ji<(m:Int))=true:=decide_eq_true (by have:=HE.out;omega)
       have hjn:j<n:=by have:=HS.out;omega
       have hA:=HT.out.2.1 (by omega)
       subst hA
       obtain⟨ml,hml⟩: ∃ml,ml=m+1:=⟨_,rfl⟩
       obtain⟨z,hz⟩: ∃z,z=s.M j m:=⟨_,rfl⟩
       obtain⟨x,hx⟩: ∃x,x=rd l2 ji:=⟨_,rfl⟩
       have hxb:=H0.out.1.idx x (by rw[hx];exact rd_memI (by have:=HE.out;omega) (by have:=HE.out;have:=H0.out.2.2.2.1;omega))
       rw[← H0.out.2.2.2.2.2.1]at hxb
       have HX:=Aside0.mk (show(0≤x∧x<(nb:Int))∧x=rd l2 ((j:Nat):Int)∧z=s.M j m∧ml=m+1 from⟨hxb,by rw[hx,HE.out.1],hz,hml⟩)
       have hbw:Below w.heap.size w wr:=below_step (below_step HD.out.2.2.2 (HJ.out.2.2.2)) HK.out.2.2.2.1
       obtain⟨ab,hab,k0⟩:=Kd.at_int (Kd.C_below HR.out.2.2.2.2 hbw) ji (by have:=HE.out;omega) (by have:=HE.out;have:=H0.out.2.2.2.1;omega)
       subst hab
       rw[← hx]at k0
       have hsl:=slvL_len nb l2 (fun i=>s.M i m) j
       obtain⟨aT,aZ,aC,aO,_,aD,aJ⟩:=Kd.R_form HK.out.2.2.2.2 (by rw[hsl];omega)
       rw[hsl]at aC
       injection aC with e1 e2 e3
       subst e1 e3
       have g0:wr.cell? ⟨g,ji.toNat,none⟩=some (.slice (some ⟨b3 j,0,none⟩) ml (aR j)):=by rw[bO.out,hml];exact HK.out.1.head hjn
       have g1:wr.cell? ⟨b3 j,m,none⟩=some (.int .i64 z):=by rw[hz];exact HK.out.1.num hjn (by omega)
       have p1:(0≤ji)=True:=eq_true (by have:=HE.out;omega)
       have p2:(ji<(n:Int))=True:=eq_true (by have:=HE.out;omega)
       have p3:(ji<(m:Int))=True:=eq_true (by have:=HE.out;omega)
       have p4:((m:Int)<(ml:Int))=True:=eq_true (by omega)
       have p5:(m<ml)=True:=eq_true (by omega)
       have p6:(0≤x)=True:=eq_true hxb.1
       have p7:(x<(nb:Int))=True:=eq_true hxb.2
       have HG:=Aside0.mk (And.intro aJ (And.intro aO (And.intro c5 hjn)))
       have hzf:wr.frozen? ⟨aT,x.toNat,none⟩=false:=blk_frozen aJ x.toNat
       clear hsl hbw hxb hml hz hx c5 hjn aJ aO
       go_upto_region 14 with (fail)
       refine wp_region_still_tail 19 (by kernel_rfl) (by kernel_rfl) ?_
       simp only[List.take_succ_cons,List.take_zero,List.drop_succ_cons,List.drop_zero]
       change wpStill _ _ (World.drew _) _ _ _
       repeat still_step
       refine wpStill_nil ?_
       change wpList _ _ _ _ _ (World.drew wr)
       obtain⟨w6,HW⟩: ∃w6,Aside0 (w6=wr.drew):=⟨_,⟨rfl⟩⟩
       have aH:=Aside0.mk (And.intro HK.out.1.drew (And.intro (blk_drew HK.out.2.1) (And.intro (blk_drew HK.out.2.2.1) (And.intro (below_drew HK.out.2.2.2.1) (Kd.R_drew HK.out.2.2.2.2)))))
       have bS:=Aside0.mk (show w6.heap[aT]? =some (.cells aD 2 (0,0))from by rw[HW.out];exact HG.out.1)
       rw[← HW.out]at aH ⊢
       clear HW HK f0 f1 g0 g1 k0 hzf
       have hrow:=row_cell aH.out.2.2.2.2 x HX.out.1.1 HX.out.1.2
       have z6:=hrow.2
       have c6:=hrow.1
       clear hrow
       go_wp2_with (fail)
       obtain⟨w7,HW⟩: ∃w7,Aside0 (w7=w6.setCell ⟨aT,x.toNat,none⟩ (.int .i64 z)):=⟨_,⟨rfl⟩⟩
       rw[← HW.out]
       go_roundg gr
       case measure=>omega
       case rel=>
        have h1:=HE.out;have h2:=HS.out;have h3:=HG.out.2
        have hw:=wrap_id (ji+1) (by omega) (by omega)
        have hne: ∀ {k:Nat},k<_→aT≠k:=fun hk e=>absurd (e▸h3.1) (Nat.not_le.2 hk)
        refine⟨j+1,ji+1,by rw[hw],⟨by omega,by omega,by omega⟩,⟨?_,?_,?_,?_,?_⟩⟩
        ·rw[HW.out];exact aH.out.1.away (fun e=>hne (HAP.out.2.1 (by omega)) e.symm) (fun i hi e=>hne (HAP.out.1 i hi) e.symm) _
        ·rw[HW.out];exact blk_far aH.out.2.1 (fun e=>hne HAP.out.2.2.1 e.symm) _
        ·rw[HW.out];exact blk_far aH.out.2.2.1 (fun e=>hne HAP.out.2.2.2.1 e.symm) _
        ·rw[HW.out];exact below_set aH.out.2.2.2.1 h3.1
        ·rw[HW.out,slvL,← HX.out.2.1,← HX.out.2.2.1]
         exact Kd.R_putn aH.out.2.2.2.2 x z
      ·have d3:decide (ji<(m:Int))=false:=decide_eq_false (by have:=HE.out;omega)
       have hjm:j=m:=by have:=HE.out;omega
       subst hjm
       have hsl:=slvL_len nb l2 (fun i=>s.M i j) j
       have hC:=Kd.R_reads' HK.out.2.2.2.2
       have hT_:=spec_l09Lowest.calls k bB bG (slvL nb l2 (fun i=>s.M i j) j) s.d t1 t2 wr (hC.2.2) (by rw[hsl];exact hC.2.1) HL.out
       rw[hsl]at hT_
       have HC:=Aside0.mk hT_
       clear hsl hC hT_ c5
       go_wp2_with (go_at_call 98;refine HC.out.mono ?_;rintro e w7 ⟨v0,rfl,hR,hb⟩;obtain⟨Av,cv,bP⟩:=Kd.R_slice hR;subst bP;have HQ:=Aside0.mk (And.intro hR hb);have f6:=blk_below HK.out.2.2.1 hb;have f6a:=blk_cell f6 0;have f6b:=blk_cell f6 1;have z6a:=blk_frozen f6 0;have z6b:=blk_frozen f6 1;simp only[List.getElem?_toArray,List.getElem?_cons_zero,List.getElem?_cons_succ]at f6a f6b;have F8:=Aside0.mk f6;clear f6 hR hb)
       (try simp only[Exit.inBlock,Exit.then])
       refine bodyPost_ret (results_ct rfl _ _ g6 44 #[.slice Av t1.length cv,.int .i64 t2] (0,0) _ rfl (by have t2':=blk_set (blk_set F8.out 0 (.slice Av t1.length cv)) 1 (.int .i64 t2);simpa using t2') Try.underlying44 rfl (by kernel_rfl)) rfl ?_
       have hbw:Below w.heap.size w w7:=below_step (below_step (below_step HD.out.2.2.2 HJ.out.2.2.2) HK.out.2.2.2.1) HQ.out.2
       refine⟨.slice Av t1.length cv,rfl,?_,below_set (below_set hbw HD.out.2.1) HD.out.2.1⟩
       have hsz:=(below_step (below_step HD.out.2.2.2 HJ.out.2.2.2) HK.out.2.2.2.1).size
       have r0:=Kd.R_set (Kd.R_lower HQ.out.1 hsz) F8.out (by simp[Kd.int,Kd.scalar]) 0 (.slice Av t1.length cv)
       have f9:=blk_set F8.out 0 (.slice Av t1.length cv)
       exact Kd.R_set r0 f9 (by simp[Kd.int,Kd.scalar]) 1 _
 ·rw[if_neg hk]at h;cases h
end
/-! ### spec_SolveBars: function 17 -/
def spec_SolveBars.j0:Nat→List (S76)→List Int→Bool→List (S90)→List (S104)→Option (List Int×Int×Int)
 |0,_,_,_,_,_=>none
 |k+1,x1,x2,aE,aA,aB=>if aE=true then(some (([]:List Int),0,1))else((spec_l09Some.f k aA aB x2).bind fun aD=>(if aD=true then((spec_l09Solve.f k aA aB x1 x2).bind fun aC=>(if aC.2.2=true then(some (aC.1,aC.2.1,0))else(some (([]:List Int),0,3))))else(some (([]:List Int),0,2))))
def spec_SolveBars.f (k:Nat) (aB:List (S90)) (aA:List (S104)) (l1:List (S76)) (l2:List Int):Option (List Int×Int×Int):=(spec_l09Ok.f k aB aA).bind fun aC=>(if aC=true then((spec_l09Loads.f k aB aA l1).bind fun aD=>(spec_SolveBars.j0 k l1 l2 (!aD) aB aA))else(spec_SolveBars.j0 k l1 l2 true aB aA))
theorem spec_SolveBars.mono_l: ∀k,(∀y0 y1 y2 y3 y4,LeO (spec_SolveBars.j0 k y0 y1 y2 y3 y4) (spec_SolveBars.j0 (k+1) y0 y1 y2 y3 y4))
 |0=>fun _ _ _ _ _ r h=>by simp[spec_SolveBars.j0]at h
 |k+1=>by
  have aA:=spec_SolveBars.mono_l k
  ·intro y0 y1 y2 y3 y4
   unfold spec_SolveBars.j0
   repeat' first
   |(with_reducible exact aA _ _ _ _ _)
   |(with_reducible exact spec_l09Loads.mono _ _ _ _)
   |(with_reducible exact spec_l09Ok.mono _ _ _)
   |(with_reducible exact spec_l09Solve.mono _ _ _ _ _)
   |(with_reducible exact spec_l09Some.mono _ _ _ _)
   |(with_reducible exact LeO.refl _)
   |(with_reducible exact LeO.none _)
   |(with_reducible refine LeO.ite ?_ ?_)
   |(with_reducible refine LeO.bind ?_ (fun _=>?_))
   |exact LeO.none _
   |refine LeO.ite ?_ ?_
   |refine LeO.bind ?_ (fun _=>?_)
theorem spec_SolveBars.mono: ∀a0 a1 a2 a3 k,LeO (spec_SolveBars.f k a0 a1 a2 a3) (spec_SolveBars.f (k+1) a0 a1 a2 a3):=by
 intro a0 a1 a2 a3 k
 have aA:=spec_SolveBars.mono_l k
 unfold spec_SolveBars.f
 repeat' first
  |(with_reducible exact aA _ _ _ _ _)
  |(with_reducible exact spec_l09Loads.mono _ _ _ _)
  |(with_reducible exact spec_l09Ok.mono _ _ _)
  |(with_reducible exact spec_l09Solve.mono _ _ _ _ _)
  |(with_reducible exact spec_l09Some.mono _ _ _ _)
  |(with_reducible exact LeO.refl _)
  |(with_reducible exact LeO.none _)
  |(with_reducible refine LeO.ite ?_ ?_)
  |(with_reducible refine LeO.bind ?_ (fun _=>?_))
  |exact LeO.none _
  |refine LeO.ite ?_ ?_
  |refine LeO.bind ?_ (fun _=>?_)
set_option maxHeartbeats 8000000 in
set_option maxRecDepth 100000 in
theorem spec_SolveBars.calls (k:Nat) (bE:Option Addr) (bF:Nat) (aH:List (S90)) (bD:Option Addr) (bG:Nat) (aG:List (S104)) (A1:Option Addr) (c1:Nat) (l1:List (S76)) (A2:Option Addr) (c2:Nat) (l2:List Int) (r1:List Int) (r2:Int) (r3:Int) (w:World) (bV:Kd.C k90 w bE aH.length aH) (bW:aH.length≤bF) (bU:Kd.C k104 w bD aG.length aG) (bT:aG.length≤bG) (dO:Kd.C k76 w A1 l1.length l1) (dZ:l1.length≤c1) (dU:Kd.C (Kd.int .i64) w A2 l2.length l2) (dV:l2.length≤c2) (h:spec_SolveBars.f k aH aG l1 l2=some (r1,r2,r3)):
 Calls Try.prog 17 #[.agg #[.slice bE aH.length bF,.slice bD aG.length bG],.slice A1 l1.length c1,.slice A2 l2.length c2] w fun e w'=>∃v0_:Value,e= .returned (.tuple #[.agg #[v0_,.int .i64 r2],.int .i64 r3])∧Kd.R (Kd.int .i64) 2 w' w.heap.size (fun _=>True) v0_ r1∧Below w.heap.size w w':=by
 have eO:=Try.underlying33;have eR:=Try.underlying44;have bA:=A' bV;have aZ:=A' bW;clear bV bW;have bB:=A' bU;have bC:=A' bT;clear bU bT;have dL:=A' dO;have dH:=A' dZ;clear dO dZ;have cD:=A' dU;have bZ:=A' dV;clear dU dV;have HB:=A' (Below.refl w.heap.size w);have H:((spec_l09Ok.f k aH aG).bind fun bR=>(if bR=true then((spec_l09Loads.f k aH aG l1).bind fun bH=>(spec_SolveBars.j0 k l1 l2 (!bH) aH aG))else(spec_SolveBars.j0 k l1 l2 true aH aG)))=some (r1,r2,r3):=h;clear h;have dK:=A' H;clear H;go_enter Try.func17,Try.ntmps17;go_upto_region 1 with (first|((with_reducible refine gate_dst (N:=3) rfl ?_);refine box_event ?hg (N:=3) ?hd (cs:=#[.slice bE aH.length bF,.slice bD aG.length bG]) (t:=33) ?hr ?_;(case hd=>rfl);(case hg=>rfl);(case hr=>first|(go_simp;done)|(go_simp;rfl));intro aC hg w5 hbox hb;have n0_:=A' (W' (qK0 HB.out) hb);have n1_:=A' (hbox);have n2_:=A' ((by rw[hg];exact(V' (qK0 HB.out)):w.heap.size≤aC));have n3_:=A' ((by rw[hg];exact(V' (qK0 HB.out)):w.heap.size≤aC));clear HB;have HB:=n0_;have aB:=n1_;have dT:=n2_;have aE:=n3_;clear n0_ n1_ n2_ n3_;clear hb hbox hg)|((with_reducible refine gate_dst (N:=6) rfl ?_);refine box_event ?hg (N:=6) ?hd (cs:=#[.slice none 0 0,.int .i64 0]) (t:=44) ?hr ?_;(case hd=>rfl);(case hg=>rfl);(case hr=>first|(go_simp;done)|(go_simp;rfl));intro aD hg w6 hbox hb;have n0_:=A' (O' (g:=aC) (qB aB.out) hb);have n1_:=A' (W' (qK1 HB.out aE.out) hb);have n2_:=A' (hbox);have n3_:=A' ((by rw[hg];exact(V' (qK1 HB.out aE.out)):w.heap.size≤aD));have n4_:=A' ((by rw[hg];exact(V' (qK1 HB.out aE.out)):w.heap.size≤aD));have n5_:=A' ((by rw[hg];exact Nat.ne_of_lt (bL' (g:=aC) (qB aB.out)):aC≠aD));have n6_:=A' ((by rw[hg];exact Nat.ne_of_gt (bL' (g:=aC) (qB aB.out)):aD≠aC));clear aB;clear HB;have aB:=n0_;have HB:=n1_;have aA:=n2_;have eN:=n3_;have aF:=n4_;have aS:=n5_;have aT:=n6_;clear n0_ n1_ n2_ n3_ n4_ n5_ n6_;clear hb hbox hg))
 (try simp only[Act.put,List.setIfInBounds_toArray,List.set_cons_zero,List.set_cons_succ])
 go_cut [16] (fun eQ wc=>∃(kq:Nat) (bK:Bool),eQ= .bool bK∧Aside0 (spec_SolveBars.j0 kq l1 l2 bK aH aG=some (r1,r2,r3))∧Aside0 (kq≤k)∧Aside0 (wc.heap[aC]? =some (.cells #[(.slice bE aH.length bF),(.slice bD aG.length bG)] 33 (0,0)))∧Aside0 (wc.heap[aD]? =some (.cells #[(.slice none 0 0),.int .i64 0] 44 (0,0)))∧Aside0 (Below w.heap.size w wc))
 case first=>
  have H:=dK.out;clear dK;replace H:=Option.bind_eq_some_iff.mp H;obtain⟨bR,dS,H⟩:=H;replace H:(if bR=true then((spec_l09Loads.f k aH aG l1).bind fun bH=>(spec_SolveBars.j0 k l1 l2 (!bH) aH aG))else(spec_SolveBars.j0 k l1 l2 true aH aG))=some (r1,r2,r3):=H;have A7:=A' dS;clear dS
  by_cases c8:bR=true
  ·subst c8;have H1:((spec_l09Loads.f k aH aG l1).bind fun bH=>(spec_SolveBars.j0 k l1 l2 (!bH) aH aG))=some (r1,r2,r3):=by rw[if_pos rfl]at H;exact H
   clear H;have H:=H1;clear H1;replace H:=Option.bind_eq_some_iff.mp H;obtain⟨bH,eF,H⟩:=H;replace H:(spec_SolveBars.j0 k l1 l2 (!bH) aH aG)=some (r1,r2,r3):=H;have A9:=A' eF;clear eF;have H':=A' H;clear H;go_wp2_with (first|((with_reducible refine gate_callee (f:=59) rfl ?_);refine goesL_ (some 10) rfl rfl Try.func59 (by kernel_rfl) rfl #[.pointer (some ⟨aC,0,none⟩)] rfl (by(try simp only[List.map_toArray,List.map_cons,List.map_nil]);first|done|rfl|(simp only[List.length_drop,List.length_take];rfl)) ?_;(with_reducible refine(spec_l09Ok.calls k aC bE bF aH bD bG aG true _ ?aO ?aM ?aL ?aK ?aN A7.out).mono ?_);(case aM=>exact qT (X' bA.out HB.out));(case aL=>exact aZ.out);(case aK=>exact qT (X' bB.out HB.out));(case aN=>exact bC.out);(case aO=>(with_reducible repeat(first|refine G' ?_ _|refine I' ?_|refine hA' ?_ _));exact aB.out);rintro e fA ⟨rfl,hb⟩;refine⟨_,rfl,?_⟩;replace aB:=A' (O' (g:=aC) (qB aB.out) hb);replace aA:=A' (O' (g:=aD) (qB aA.out) hb);replace HB:=A' (W' (qK2 HB.out aE.out aF.out) hb);(try clear hb);(try clear hb2);(try clear hk);(try clear hi))|(go_at_call 60;(with_reducible refine(spec_l09Loads.calls k aC bE bF aH bD bG aG _ _ l1 bH _ ?aR ?aM ?aL ?aK ?aN ?aO ?aQ A9.out).mono ?_);(case aM=>exact qT (X' bA.out HB.out));(case aL=>exact aZ.out);(case aK=>exact qT (X' bB.out HB.out));(case aN=>exact bC.out);(case aO=>exact qT (X' dL.out HB.out));(case aQ=>exact dH.out);(case aR=>(with_reducible repeat(first|refine G' ?_ _|refine I' ?_|refine hA' ?_ _));exact aB.out);rintro e eT ⟨rfl,hb⟩;replace aB:=A' (O' (g:=aC) (qB aB.out) hb);replace aA:=A' (O' (g:=aD) (qB aA.out) hb);replace HB:=A' (W' (qK2 HB.out aE.out aF.out) hb);(try clear hb);(try clear hb2);(try clear hk);(try clear hi)))
   go_meet
   case rel=>exact⟨_,(!bH),qS,H',⟨by first|omega|exact Nat.le_refl _⟩,⟨qB aB.out⟩,⟨qB aA.out⟩,⟨qK2 HB.out aE.out aF.out⟩⟩
  ·replace c8:=Bool.eq_false_iff.mpr c8;subst c8;have H1:(spec_SolveBars.j0 k l1 l2 true aH aG)=some (r1,r2,r3):=by rw[if_neg (show¬(false=true) by decide)]at H;exact H
   clear H;have H:=H1;clear H1;have H':=A' H;clear H;go_wp2_with (first|((with_reducible refine gate_callee (f:=59) rfl ?_);refine goesL_ (some 10) rfl rfl Try.func59 (by kernel_rfl) rfl #[.pointer (some ⟨aC,0,none⟩)] rfl (by(try simp only[List.map_toArray,List.map_cons,List.map_nil]);first|done|rfl|(simp only[List.length_drop,List.length_take];rfl)) ?_;(with_reducible refine(spec_l09Ok.calls k aC bE bF aH bD bG aG false _ ?aO ?aM ?aL ?aK ?aN A7.out).mono ?_);(case aM=>exact qT (X' bA.out HB.out));(case aL=>exact aZ.out);(case aK=>exact qT (X' bB.out HB.out));(case aN=>exact bC.out);(case aO=>(with_reducible repeat(first|refine G' ?_ _|refine I' ?_|refine hA' ?_ _));exact aB.out);rintro e eX ⟨rfl,hb⟩;refine⟨_,rfl,?_⟩;replace aB:=A' (O' (g:=aC) (qB aB.out) hb);replace aA:=A' (O' (g:=aD) (qB aA.out) hb);replace HB:=A' (W' (qK2 HB.out aE.out aF.out) hb);(try clear hb);(try clear hb2);(try clear hk);(try clear hi)))
   go_meet
   case rel=>exact⟨_,(true),qS,H',⟨by first|omega|exact Nat.le_refl _⟩,⟨qB aB.out⟩,⟨qB aA.out⟩,⟨qK2 HB.out aE.out aF.out⟩⟩
 case rest=>
  clear dK;try clear c1
  try clear c2
  try clear p2
  try clear c5
  try clear c8
  obtain⟨kq,bK,rfl,HA,eZ,aB,aA,HB⟩:=hcut
  cases kq with
  |zero=>exact absurd HA.out (by simp[spec_SolveBars.j0])
  |succ bS=>
   have H:=HA.out;clear HA;simp only[spec_SolveBars.j0]at H
   by_cases cS:bK=true
   ·subst cS;have H1:(some (([]:List Int),0,1))=some (r1,r2,r3):=by rw[if_pos rfl]at H;exact H
    clear H;have H:=H1;clear H1;simp only[Option.some.injEq,Prod.mk.injEq]at H;obtain⟨rfl,rfl,rfl⟩:=H;have dY:=aT.out;have dX:=aS.out;have cZ:wc.cell? ⟨aD,0,none⟩=some (.slice none 0 0):=(N' aA.out 0).trans rfl;have cN:wc.cell? ⟨aD,1,none⟩=some (.int .i64 0):=(N' aA.out 1).trans rfl;have cK:=Y' aA.out 0;have cH:=Y' aA.out 1;go_wp2;refine bodyPost_ret (results_ct rfl _ _ aD 44 #[.slice none 0 0,.int .i64 0] (0,0) _ rfl (by(with_reducible repeat(first|refine G' ?_ _|refine I' ?_|refine hA' ?_ _));refine blk_put (cs:=#[.slice none 0 0,.int .i64 0]) ?_ 1 _ rfl;(with_reducible repeat(first|refine G' ?_ _|refine I' ?_|refine hA' ?_ _));refine blk_put (cs:=#[.slice none 0 0,.int .i64 0]) ?_ 0 _ rfl;(with_reducible repeat(first|refine G' ?_ _|refine I' ?_|refine hA' ?_ _));exact aA.out) Try.underlying44 rfl (by kernel_rfl)) rfl ?_;exact⟨_,qE,by first|exact Kd.R_nil _ _ _ _ _|exact Kd.N_nil _ _ _ _ _|exact Kd.V_nil _ _ _ _ _|exact Kd.Q_nil _ _ _ _ _|exact Kd.S_nil _ _ _ _ _,qK2 HB.out aE.out aF.out⟩
   ·replace cS:=Bool.eq_false_iff.mpr cS;subst cS;have H1:((spec_l09Some.f bS aH aG l2).bind fun bQ=>(if bQ=true then((spec_l09Solve.f bS aH aG l1 l2).bind fun aP=>(if aP.2.2=true then(some (aP.1,aP.2.1,0))else(some (([]:List Int),0,3))))else(some (([]:List Int),0,2))))=some (r1,r2,r3):=by rw[if_neg (show¬(false=true) by decide)]at H;exact H
    clear H;have H:=H1;clear H1;replace H:=Option.bind_eq_some_iff.mp H;obtain⟨bQ,cB,H⟩:=H;replace H:(if bQ=true then((spec_l09Solve.f bS aH aG l1 l2).bind fun aP=>(if aP.2.2=true then(some (aP.1,aP.2.1,0))else(some (([]:List Int),0,3))))else(some (([]:List Int),0,2)))=some (r1,r2,r3):=H;have dI:=A' cB;clear cB
    by_cases cG:bQ=true
    ·subst cG;have H1:((spec_l09Solve.f bS aH aG l1 l2).bind fun aP=>(if aP.2.2=true then(some (aP.1,aP.2.1,0))else(some (([]:List Int),0,3))))=some (r1,r2,r3):=by rw[if_pos rfl]at H;exact H
     clear H;have H:=H1;clear H1;replace H:=Option.bind_eq_some_iff.mp H;obtain⟨⟨bI,bJ,bX⟩,cA,H⟩:=H;replace H:(if bX=true then(some (bI,bJ,0))else(some (([]:List Int),0,3)))=some (r1,r2,r3):=H;have eI:=A' cA;clear cA
     by_cases dG:bX=true
     ·subst dG;have H1:(some (bI,bJ,0))=some (r1,r2,r3):=by rw[if_pos rfl]at H;exact H
      clear H;have H:=H1;clear H1;simp only[Option.some.injEq,Prod.mk.injEq]at H;obtain⟨rfl,rfl,rfl⟩:=H;go_wp2_with (first|((with_reducible refine gate_callee (f:=61) rfl ?_);refine goesL_ (some 19) rfl rfl Try.func61 (by kernel_rfl) rfl #[.pointer (some ⟨aC,0,none⟩),.slice A2 l2.length c2] rfl (by(try simp only[List.map_toArray,List.map_cons,List.map_nil]);first|done|rfl|(simp only[List.length_drop,List.length_take];rfl)) ?_;(with_reducible refine(spec_l09Some.calls bS aC bE bF aH bD bG aG _ _ l2 true _ ?aR ?aM ?aL ?aK ?aN ?aO ?aQ dI.out).mono ?_);(case aM=>exact qT (X' bA.out HB.out));(case aL=>exact aZ.out);(case aK=>exact qT (X' bB.out HB.out));(case aN=>exact bC.out);(case aO=>exact qT (X' cD.out HB.out));(case aQ=>exact bZ.out);(case aR=>(with_reducible repeat(first|refine G' ?_ _|refine I' ?_|refine hA' ?_ _));exact aB.out);rintro e eV ⟨rfl,hb⟩;refine⟨_,rfl,?_⟩;replace aB:=A' (O' (g:=aC) (qB aB.out) hb);replace aA:=A' (O' (g:=aD) (qB aA.out) hb);replace HB:=A' (W' (qK2 HB.out aE.out aF.out) hb);(try clear hb);(try clear hb2);(try clear hk);(try clear hi))|((with_reducible refine gate_callee (f:=62) rfl ?_);refine goesL_ (some 25) rfl rfl Try.func62 (by kernel_rfl) rfl #[.pointer (some ⟨aC,0,none⟩),.slice A1 l1.length c1,.slice A2 l2.length c2] rfl (by(try simp only[List.map_toArray,List.map_cons,List.map_nil]);first|done|rfl|(simp only[List.length_drop,List.length_take];rfl)) ?_;(with_reducible refine(spec_l09Solve.calls bS aC bE bF aH bD bG aG _ _ l1 _ _ l2 bI bJ true _ ?bM ?aM ?aL ?aK ?aN ?aO ?aQ ?aR ?bN eI.out).mono ?_);(case aM=>exact qT (X' bA.out HB.out));(case aL=>exact aZ.out);(case aK=>exact qT (X' bB.out HB.out));(case aN=>exact bC.out);(case aO=>exact qT (X' dL.out HB.out));(case aQ=>exact dH.out);(case aR=>exact qT (X' cD.out HB.out));(case bN=>exact bZ.out);(case bM=>(with_reducible repeat(first|refine G' ?_ _|refine I' ?_|refine hA' ?_ _));exact aB.out);rintro e eY ⟨dM,rfl,cC,hb⟩;refine⟨_,rfl,?_⟩;have n0_:=A' (Kd.R_lower cC (V' (qK2 HB.out aE.out aF.out)));have n1_:=A' (O' (g:=aC) (qB aB.out) hb);have n2_:=A' (O' (g:=aD) (qB aA.out) hb);have n3_:=A' (W' (qK2 HB.out aE.out aF.out) hb);clear aB;clear aA;clear HB;have aU:=n0_;have aB:=n1_;have aA:=n2_;have HB:=n3_;clear n0_ n1_ n2_ n3_;(try clear hb);(try clear hb2);(try clear hk);(try clear hi);(try clear cC))|((with_reducible refine gate_dst (N:=8) rfl ?_);refine box_event ?hg (N:=8) ?hd (cs:=#[.slice none 0 0,.int .i64 0]) (t:=44) ?hr ?_;(case hd=>rfl);(case hg=>rfl);(case hr=>first|(go_simp;done)|(go_simp;rfl));intro aI hg cX hbox hb;have n0_:=A' (L' (qR aU.out) hb);have n1_:=A' (O' (g:=aC) (qB aB.out) hb);have n2_:=A' (O' (g:=aD) (qB aA.out) hb);have n3_:=A' (W' (qK2 HB.out aE.out aF.out) hb);have n4_:=A' (hbox);have n5_:=A' ((by rw[hg];exact(V' (qK2 HB.out aE.out aF.out)):w.heap.size≤aI));have n6_:=A' ((by rw[hg];exact(V' (qK2 HB.out aE.out aF.out)):w.heap.size≤aI));have n7_:=A' ((by rw[hg];exact Nat.ne_of_lt (bL' (g:=aC) (qB aB.out)):aC≠aI));have n8_:=A' ((by rw[hg];exact Nat.ne_of_gt (bL' (g:=aC) (qB aB.out)):aI≠aC));have n9_:=A' ((by rw[hg];exact Nat.ne_of_lt (bL' (g:=aD) (qB aA.out)):aD≠aI));have n10_:=A' ((by rw[hg];exact Nat.ne_of_gt (bL' (g:=aD) (qB aA.out)):aI≠aD));clear aU;clear aB;clear aA;clear HB;have aU:=n0_;have aB:=n1_;have aA:=n2_;have HB:=n3_;have aV:=n4_;have bY:=n5_;have bL:=n6_;have aX:=n7_;have aW:=n8_;have aJ:=n9_;have aY:=n10_;clear n0_ n1_ n2_ n3_ n4_ n5_ n6_ n7_ n8_ n9_ n10_;clear hb hbox hg;obtain⟨bP,bO,dN⟩:=Kd.R_slice aU.out;subst dN;have eK:=aW.out;have eM:=aX.out;have eE:=aY.out;have eG:=aJ.out;have cM:cX.cell? ⟨aI,0,none⟩=some (.slice none 0 0):=(N' aV.out 0).trans rfl;have cT:cX.cell? ⟨aI,1,none⟩=some (.int .i64 0):=(N' aV.out 1).trans rfl;have dA:=Y' aV.out 0;have cF:=Y' aV.out 1;have eH:=aT.out;have dQ:=aS.out;have dB:cX.cell? ⟨aD,0,none⟩=some (.slice none 0 0):=(N' aA.out 0).trans rfl;have dF:cX.cell? ⟨aD,1,none⟩=some (.int .i64 0):=(N' aA.out 1).trans rfl;have cP:=Y' aA.out 0;have cL:=Y' aA.out 1));refine bodyPost_ret (results_ct rfl _ _ aD 44 #[.slice bP bI.length bO,.int .i64 bJ] (0,0) _ rfl (by(with_reducible repeat(first|refine G' ?_ _|refine I' ?_|refine hA' ?_ _));refine blk_put (cs:=#[.slice bP bI.length bO,.int .i64 0]) ?_ 1 _ rfl;(with_reducible repeat(first|refine G' ?_ _|refine I' ?_|refine hA' ?_ _));refine blk_put (cs:=#[.slice none 0 0,.int .i64 0]) ?_ 0 _ rfl;(with_reducible repeat(first|refine G' ?_ _|refine I' ?_|refine hA' ?_ _));refine bF' ?_ aJ.out _;(with_reducible repeat(first|refine G' ?_ _|refine I' ?_|refine hA' ?_ _));refine bF' ?_ aJ.out _;(with_reducible repeat(first|refine G' ?_ _|refine I' ?_|refine hA' ?_ _));exact aA.out) Try.underlying44 rfl (by kernel_rfl)) rfl ?_;exact⟨_,qE,by(with_reducible repeat(first|apply B'|apply C'|apply D'));exact Q' (M' (p:=⟨aD,1,none⟩) (M' (p:=⟨aD,0,none⟩) (M' (p:=⟨aI,1,none⟩) (M' (p:=⟨aI,0,none⟩) (P' (P' aU.out aV.out (by decide)) aA.out (by decide)) (fun _ hk=>hk.1.2) (.slice bP bI.length bO)) (fun _ hk=>hk.1.2) (.int .i64 bJ)) (fun _ hk=>hk.2) (.slice bP bI.length bO)) (fun _ hk=>hk.2) (.int .i64 bJ)) (fun _ hk=>trivial),qK3 HB.out aE.out aF.out bL.out⟩
     ·replace dG:=Bool.eq_false_iff.mpr dG;subst dG;have H1:(some (([]:List Int),0,3))=some (r1,r2,r3):=by rw[if_neg (show¬(false=true) by decide)]at H;exact H
      clear H;have H:=H1;clear H1;simp only[Option.some.injEq,Prod.mk.injEq]at H;obtain⟨rfl,rfl,rfl⟩:=H;go_wp2_with (first|((with_reducible refine gate_callee (f:=61) rfl ?_);refine goesL_ (some 19) rfl rfl Try.func61 (by kernel_rfl) rfl #[.pointer (some ⟨aC,0,none⟩),.slice A2 l2.length c2] rfl (by(try simp only[List.map_toArray,List.map_cons,List.map_nil]);first|done|rfl|(simp only[List.length_drop,List.length_take];rfl)) ?_;(with_reducible refine(spec_l09Some.calls bS aC bE bF aH bD bG aG _ _ l2 true _ ?aR ?aM ?aL ?aK ?aN ?aO ?aQ dI.out).mono ?_);(case aM=>exact qT (X' bA.out HB.out));(case aL=>exact aZ.out);(case aK=>exact qT (X' bB.out HB.out));(case aN=>exact bC.out);(case aO=>exact qT (X' cD.out HB.out));(case aQ=>exact bZ.out);(case aR=>(with_reducible repeat(first|refine G' ?_ _|refine I' ?_|refine hA' ?_ _));exact aB.out);rintro e eU ⟨rfl,hb⟩;refine⟨_,rfl,?_⟩;replace aB:=A' (O' (g:=aC) (qB aB.out) hb);replace aA:=A' (O' (g:=aD) (qB aA.out) hb);replace HB:=A' (W' (qK2 HB.out aE.out aF.out) hb);(try clear hb);(try clear hb2);(try clear hk);(try clear hi))|((with_reducible refine gate_callee (f:=62) rfl ?_);refine goesL_ (some 25) rfl rfl Try.func62 (by kernel_rfl) rfl #[.pointer (some ⟨aC,0,none⟩),.slice A1 l1.length c1,.slice A2 l2.length c2] rfl (by(try simp only[List.map_toArray,List.map_cons,List.map_nil]);first|done|rfl|(simp only[List.length_drop,List.length_take];rfl)) ?_;(with_reducible refine(spec_l09Solve.calls bS aC bE bF aH bD bG aG _ _ l1 _ _ l2 bI bJ false _ ?bM ?aM ?aL ?aK ?aN ?aO ?aQ ?aR ?bN eI.out).mono ?_);(case aM=>exact qT (X' bA.out HB.out));(case aL=>exact aZ.out);(case aK=>exact qT (X' bB.out HB.out));(case aN=>exact bC.out);(case aO=>exact qT (X' dL.out HB.out));(case aQ=>exact dH.out);(case aR=>exact qT (X' cD.out HB.out));(case bN=>exact bZ.out);(case bM=>(with_reducible repeat(first|refine G' ?_ _|refine I' ?_|refine hA' ?_ _));exact aB.out);rintro e eW ⟨dM,rfl,cC,hb⟩;refine⟨_,rfl,?_⟩;have n0_:=A' (Kd.R_lower cC (V' (qK2 HB.out aE.out aF.out)));have n1_:=A' (O' (g:=aC) (qB aB.out) hb);have n2_:=A' (O' (g:=aD) (qB aA.out) hb);have n3_:=A' (W' (qK2 HB.out aE.out aF.out) hb);clear aB;clear aA;clear HB;have aU:=n0_;have aB:=n1_;have aA:=n2_;have HB:=n3_;clear n0_ n1_ n2_ n3_;(try clear hb);(try clear hb2);(try clear hk);(try clear hi);(try clear cC))|((with_reducible refine gate_dst (N:=8) rfl ?_);refine box_event ?hg (N:=8) ?hd (cs:=#[.slice none 0 0,.int .i64 0]) (t:=44) ?hr ?_;(case hd=>rfl);(case hg=>rfl);(case hr=>first|(go_simp;done)|(go_simp;rfl));intro aI hg cV hbox hb;have n0_:=A' (L' (qR aU.out) hb);have n1_:=A' (O' (g:=aC) (qB aB.out) hb);have n2_:=A' (O' (g:=aD) (qB aA.out) hb);have n3_:=A' (W' (qK2 HB.out aE.out aF.out) hb);have n4_:=A' (hbox);have n5_:=A' ((by rw[hg];exact(V' (qK2 HB.out aE.out aF.out)):w.heap.size≤aI));have n6_:=A' ((by rw[hg];exact(V' (qK2 HB.out aE.out aF.out)):w.heap.size≤aI));have n7_:=A' ((by rw[hg];exact Nat.ne_of_lt (bL' (g:=aC) (qB aB.out)):aC≠aI));have n8_:=A' ((by rw[hg];exact Nat.ne_of_gt (bL' (g:=aC) (qB aB.out)):aI≠aC));have n9_:=A' ((by rw[hg];exact Nat.ne_of_lt (bL' (g:=aD) (qB aA.out)):aD≠aI));have n10_:=A' ((by rw[hg];exact Nat.ne_of_gt (bL' (g:=aD) (qB aA.out)):aI≠aD));clear aU;clear aB;clear aA;clear HB;have aU:=n0_;have aB:=n1_;have aA:=n2_;have HB:=n3_;have aV:=n4_;have bY:=n5_;have bL:=n6_;have aX:=n7_;have aW:=n8_;have aJ:=n9_;have aY:=n10_;clear n0_ n1_ n2_ n3_ n4_ n5_ n6_ n7_ n8_ n9_ n10_;clear hb hbox hg;obtain⟨eS,eP,dJ⟩:=Kd.R_slice aU.out;subst dJ;have eA:=aW.out;have eJ:=aX.out;have dW:=aY.out;have dR:=aJ.out;have dC:cV.cell? ⟨aI,0,none⟩=some (.slice none 0 0):=(N' aV.out 0).trans rfl;have cI:cV.cell? ⟨aI,1,none⟩=some (.int .i64 0):=(N' aV.out 1).trans rfl;have cW:=Y' aV.out 0;have cQ:=Y' aV.out 1;have dP:=aT.out;have eB:=aS.out;have cU:cV.cell? ⟨aD,0,none⟩=some (.slice none 0 0):=(N' aA.out 0).trans rfl;have cJ:cV.cell? ⟨aD,1,none⟩=some (.int .i64 0):=(N' aA.out 1).trans rfl;have cE:=Y' aA.out 0;have cY:=Y' aA.out 1));refine bodyPost_ret (results_ct rfl _ _ aD 44 #[.slice none 0 0,.int .i64 0] (0,0) _ rfl (by(with_reducible repeat(first|refine G' ?_ _|refine I' ?_|refine hA' ?_ _));refine blk_put (cs:=#[.slice none 0 0,.int .i64 0]) ?_ 1 _ rfl;(with_reducible repeat(first|refine G' ?_ _|refine I' ?_|refine hA' ?_ _));refine blk_put (cs:=#[.slice none 0 0,.int .i64 0]) ?_ 0 _ rfl;(with_reducible repeat(first|refine G' ?_ _|refine I' ?_|refine hA' ?_ _));refine bF' ?_ aJ.out _;(with_reducible repeat(first|refine G' ?_ _|refine I' ?_|refine hA' ?_ _));refine bF' ?_ aJ.out _;(with_reducible repeat(first|refine G' ?_ _|refine I' ?_|refine hA' ?_ _));exact aA.out) Try.underlying44 rfl (by kernel_rfl)) rfl ?_;exact⟨_,qE,by first|exact Kd.R_nil _ _ _ _ _|exact Kd.N_nil _ _ _ _ _|exact Kd.V_nil _ _ _ _ _|exact Kd.Q_nil _ _ _ _ _|exact Kd.S_nil _ _ _ _ _,qK3 HB.out aE.out aF.out bL.out⟩
    ·replace cG:=Bool.eq_false_iff.mpr cG;subst cG;have H1:(some (([]:List Int),0,2))=some (r1,r2,r3):=by rw[if_neg (show¬(false=true) by decide)]at H;exact H
     clear H;have H:=H1;clear H1;simp only[Option.some.injEq,Prod.mk.injEq]at H;obtain⟨rfl,rfl,rfl⟩:=H;go_wp2_with (first|((with_reducible refine gate_callee (f:=61) rfl ?_);refine goesL_ (some 19) rfl rfl Try.func61 (by kernel_rfl) rfl #[.pointer (some ⟨aC,0,none⟩),.slice A2 l2.length c2] rfl (by(try simp only[List.map_toArray,List.map_cons,List.map_nil]);first|done|rfl|(simp only[List.length_drop,List.length_take];rfl)) ?_;(with_reducible refine(spec_l09Some.calls bS aC bE bF aH bD bG aG _ _ l2 false _ ?aR ?aM ?aL ?aK ?aN ?aO ?aQ dI.out).mono ?_);(case aM=>exact qT (X' bA.out HB.out));(case aL=>exact aZ.out);(case aK=>exact qT (X' bB.out HB.out));(case aN=>exact bC.out);(case aO=>exact qT (X' cD.out HB.out));(case aQ=>exact bZ.out);(case aR=>(with_reducible repeat(first|refine G' ?_ _|refine I' ?_|refine hA' ?_ _));exact aB.out);rintro e eC ⟨rfl,hb⟩;refine⟨_,rfl,?_⟩;replace aB:=A' (O' (g:=aC) (qB aB.out) hb);replace aA:=A' (O' (g:=aD) (qB aA.out) hb);replace HB:=A' (W' (qK2 HB.out aE.out aF.out) hb);(try clear hb);(try clear hb2);(try clear hk);(try clear hi);have eL:=aT.out;have eD:=aS.out;have dD:eC.cell? ⟨aD,0,none⟩=some (.slice none 0 0):=(N' aA.out 0).trans rfl;have dE:eC.cell? ⟨aD,1,none⟩=some (.int .i64 0):=(N' aA.out 1).trans rfl;have cO:=Y' aA.out 0;have cR:=Y' aA.out 1));refine bodyPost_ret (results_ct rfl _ _ aD 44 #[.slice none 0 0,.int .i64 0] (0,0) _ rfl (by(with_reducible repeat(first|refine G' ?_ _|refine I' ?_|refine hA' ?_ _));refine blk_put (cs:=#[.slice none 0 0,.int .i64 0]) ?_ 1 _ rfl;(with_reducible repeat(first|refine G' ?_ _|refine I' ?_|refine hA' ?_ _));refine blk_put (cs:=#[.slice none 0 0,.int .i64 0]) ?_ 0 _ rfl;(with_reducible repeat(first|refine G' ?_ _|refine I' ?_|refine hA' ?_ _));exact aA.out) Try.underlying44 rfl (by kernel_rfl)) rfl ?_;exact⟨_,qE,by first|exact Kd.R_nil _ _ _ _ _|exact Kd.N_nil _ _ _ _ _|exact Kd.V_nil _ _ _ _ _|exact Kd.Q_nil _ _ _ _ _|exact Kd.S_nil _ _ _ _ _,qK2 HB.out aE.out aF.out⟩
/-! ### laws_toPull: function 63 -/
def laws_toPull.f (aB:Int) (aA:Int):Option (Int×Int):=some (aB,aA)
set_option maxHeartbeats 8000000 in
set_option maxRecDepth 100000 in
theorem laws_toPull.calls (aH:Int) (aP:Int) (r1:Int) (r2:Int) (w:World) (h:laws_toPull.f aH aP=some (r1,r2)):
 Calls Try.prog 63 #[.agg #[.int .i64 aH,.int .i64 aP]] w fun e w'=>e= .returned (.agg #[.int .i64 r1,.int .i64 r2])∧Below w.heap.size w w':=by
 have bN:=Try.underlying98;have bI:=Try.underlying76;have HB:=A' (Below.refl w.heap.size w);have H:(some (aH,aP))=some (r1,r2):=h;clear h;simp only[Option.some.injEq,Prod.mk.injEq]at H;obtain⟨rfl,rfl⟩:=H;go_enter Try.func63,Try.ntmps63;go_wp2_with (first|((with_reducible refine gate_dst (N:=1) rfl ?_);refine box_event ?hg (N:=1) ?hd (cs:=#[.int .i64 aH,.int .i64 aP]) (t:=98) ?hr ?_;(case hd=>rfl);(case hg=>rfl);(case hr=>first|(go_simp;done)|(go_simp;rfl));intro aA hg w2 hbox hb;have n0_:=A' (W' (qK0 HB.out) hb);have n1_:=A' (hbox);have n2_:=A' ((by rw[hg];exact(V' (qK0 HB.out)):w.heap.size≤aA));have n3_:=A' ((by rw[hg];exact(V' (qK0 HB.out)):w.heap.size≤aA));clear HB;have HB:=n0_;have aB:=n1_;have bE:=n2_;have aG:=n3_;clear n0_ n1_ n2_ n3_;clear hb hbox hg)|((with_reducible refine gate_dst (N:=2) rfl ?_);refine box_event ?hg (N:=2) ?hd (cs:=#[.int .i64 0,.int .i64 0]) (t:=76) ?hr ?_;(case hd=>rfl);(case hg=>rfl);(case hr=>first|(go_simp;done)|(go_simp;rfl));intro aC hg w3 hbox hb;have n0_:=A' (O' (g:=aA) (qB aB.out) hb);have n1_:=A' (W' (qK1 HB.out aG.out) hb);have n2_:=A' (hbox);have n3_:=A' ((by rw[hg];exact(V' (qK1 HB.out aG.out)):w.heap.size≤aC));have n4_:=A' ((by rw[hg];exact(V' (qK1 HB.out aG.out)):w.heap.size≤aC));have n5_:=A' ((by rw[hg];exact Nat.ne_of_lt (bL' (g:=aA) (qB aB.out)):aA≠aC));have n6_:=A' ((by rw[hg];exact Nat.ne_of_gt (bL' (g:=aA) (qB aB.out)):aC≠aA));clear aB;clear HB;have aB:=n0_;have HB:=n1_;have aD:=n2_;have bF:=n3_;have aI:=n4_;have aK:=n5_;have aN:=n6_;clear n0_ n1_ n2_ n3_ n4_ n5_ n6_;clear hb hbox hg)|((with_reducible refine gate_dst (N:=3) rfl ?_);refine box_event ?hg (N:=3) ?hd (cs:=#[.int .i64 0,.int .i64 0]) (t:=76) ?hr ?_;(case hd=>rfl);(case hg=>rfl);(case hr=>first|(go_simp;done)|(go_simp;rfl));intro aF hg w4 hbox hb;have n0_:=A' (O' (g:=aA) (qB aB.out) hb);have n1_:=A' (O' (g:=aC) (qB aD.out) hb);have n2_:=A' (W' (qK2 HB.out aG.out aI.out) hb);have n3_:=A' (hbox);have n4_:=A' ((by rw[hg];exact(V' (qK2 HB.out aG.out aI.out)):w.heap.size≤aF));have n5_:=A' ((by rw[hg];exact(V' (qK2 HB.out aG.out aI.out)):w.heap.size≤aF));have n6_:=A' ((by rw[hg];exact Nat.ne_of_lt (bL' (g:=aA) (qB aB.out)):aA≠aF));have n7_:=A' ((by rw[hg];exact Nat.ne_of_gt (bL' (g:=aA) (qB aB.out)):aF≠aA));have n8_:=A' ((by rw[hg];exact Nat.ne_of_lt (bL' (g:=aC) (qB aD.out)):aC≠aF));have n9_:=A' ((by rw[hg];exact Nat.ne_of_gt (bL' (g:=aC) (qB aD.out)):aF≠aC));clear aB;clear aD;clear HB;have aB:=n0_;have aD:=n1_;have HB:=n2_;have aJ:=n3_;have bD:=n4_;have aQ:=n5_;have aO:=n6_;have aM:=n7_;have aE:=n8_;have aL:=n9_;clear n0_ n1_ n2_ n3_ n4_ n5_ n6_ n7_ n8_ n9_;clear hb hbox hg;have bJ:=aK.out;have bM:=aN.out;have bL:=aO.out;have bK:=aM.out;have bC:w4.cell? ⟨aA,0,none⟩=some (.int .i64 aH):=(N' aB.out 0).trans rfl;have bA:w4.cell? ⟨aA,1,none⟩=some (.int .i64 aP):=(N' aB.out 1).trans rfl;have aZ:=Y' aB.out 0;have aW:=Y' aB.out 1;have bH:=aL.out;have bG:=aE.out;have aX:w4.cell? ⟨aF,0,none⟩=some (.int .i64 0):=(N' aJ.out 0).trans rfl;have bB:w4.cell? ⟨aF,1,none⟩=some (.int .i64 0):=(N' aJ.out 1).trans rfl;have aV:=Y' aJ.out 0;have aY:=Y' aJ.out 1;have aS:w4.cell? ⟨aC,0,none⟩=some (.int .i64 0):=(N' aD.out 0).trans rfl;have aR:w4.cell? ⟨aC,1,none⟩=some (.int .i64 0):=(N' aD.out 1).trans rfl;have aT:=Y' aD.out 0;have aU:=Y' aD.out 1));refine bodyPost_ret (results_cell_row rfl _ _ aC 76 #[.int .i64 aH,.int .i64 aP] (0,0) _ rfl (by(with_reducible repeat(first|refine G' ?_ _|refine I' ?_|refine hA' ?_ _));refine blk_put (cs:=#[.int .i64 aH,.int .i64 0]) ?_ 1 _ rfl;(with_reducible repeat(first|refine G' ?_ _|refine I' ?_|refine hA' ?_ _));refine blk_put (cs:=#[.int .i64 0,.int .i64 0]) ?_ 0 _ rfl;(with_reducible repeat(first|refine G' ?_ _|refine I' ?_|refine hA' ?_ _));refine bF' ?_ aE.out _;(with_reducible repeat(first|refine G' ?_ _|refine I' ?_|refine hA' ?_ _));refine bF' ?_ aE.out _;(with_reducible repeat(first|refine G' ?_ _|refine I' ?_|refine hA' ?_ _));exact aD.out) Try.underlying76 rfl (by kernel_rfl)) rfl ?_;exact⟨qE,qK3 HB.out aG.out aI.out aQ.out⟩
end Go.Proofs.Ytebbdadpgapobaa.HEl
