-- Written by a program for this claim (the functions that the statement reaches, and that the program's code comes to them).
import Derived.Test.YtebbdadpgapobaaHElx0
namespace Go.Proofs.Ytebbdadpgapobaa.HEl
open Go.RowKit Go.Proofs.YtebbdadpgapobaaW.PrintWords Go.Proofs.YtebbdadpgapobaaW.PrintLast Go.Proofs.YtebbdadpgapobaaW.PrintMore
attribute [local go_sem] max2_int min2_int max_two min_two max_three min_three max_four min_four
set_option linter.unusedVariables false
set_option linter.unusedSimpArgs false
/-! ### laws_eqKnot: function 95 -/
def laws_eqKnot.f (aF:Int) (aD:Int) (aE:Bool) (aC:Int) (aB:Int) (aA:Bool):Option (Bool):=if aF=aC then(if aD=aB then(if(aE != aA)=true then(some false)else(some true))else(some false))else(some false)
set_option maxHeartbeats 8000000 in
set_option maxRecDepth 100000 in
theorem laws_eqKnot.calls (aL:Int) (aJ:Int) (aI:Bool) (aM:Int) (aK:Int) (aH:Bool) (r:Bool) (w:World) (h:laws_eqKnot.f aL aJ aI aM aK aH=some r):
 Calls Try.prog 95 #[.agg #[.int .i64 aL,.int .i64 aJ,.bool aI],.agg #[.int .i64 aM,.int .i64 aK,.bool aH]] w fun e w'=>e= .returned (.bool r)∧Below w.heap.size w w':=by
 have cW:=Try.underlying90;have HB:=A' (Below.refl w.heap.size w);have H:(if aL=aM then(if aJ=aK then(if(aI != aH)=true then(some false)else(some true))else(some false))else(some false))=some r:=h;clear h
 by_cases c3:aL=aM
 ·rw[if_pos c3]at H;have c3b0:(aL == aM)=true:=beq_iff_eq.mpr c3;have c3b1:(aL != aM)=false:=bne_eq_false_iff_eq.mpr c3;clear c3
  by_cases c4:aJ=aK
  ·rw[if_pos c4]at H;have c4b0:(aJ == aK)=true:=beq_iff_eq.mpr c4;have c4b1:(aJ != aK)=false:=bne_eq_false_iff_eq.mpr c4;clear c4
   by_cases c5:(aI != aH)=true
   ·rw[if_pos c5]at H;have c5b0:(aI != aH)=true:=c5;(try(have c5b1:decide (aI=aH)=false:=by simpa using c5));(try(have c5b2:(aI == aH)=false:=by simpa using c5));(try(have c5b3: ¬(aI=aH):=by simpa using c5));clear c5;obtain rfl:=Option.some.inj H;go_enter Try.func95,Try.ntmps95;go_wp2_with (first|((with_reducible refine gate_dst (N:=2) rfl ?_);refine box_event ?hg (N:=2) ?hd (cs:=#[.int .i64 aL,.int .i64 aJ,.bool aI]) (t:=90) ?hr ?_;(case hd=>rfl);(case hg=>rfl);(case hr=>first|(go_simp;done)|(go_simp;rfl));intro aB hg w6 hbox hb;have n0_:=A' (W' (qK0 HB.out) hb);have n1_:=A' (hbox);have n2_:=A' ((by rw[hg];exact(V' (qK0 HB.out)):w.heap.size≤aB));have n3_:=A' ((by rw[hg];exact(V' (qK0 HB.out)):w.heap.size≤aB));clear HB;have HB:=n0_;have aA:=n1_;have aO:=n2_;have aE:=n3_;clear n0_ n1_ n2_ n3_;clear hb hbox hg)|((with_reducible refine gate_dst (N:=3) rfl ?_);refine box_event ?hg (N:=3) ?hd (cs:=#[.int .i64 aM,.int .i64 aK,.bool aH]) (t:=90) ?hr ?_;(case hd=>rfl);(case hg=>rfl);(case hr=>first|(go_simp;done)|(go_simp;rfl));intro aC hg w7 hbox hb;have n0_:=A' (O' (g:=aB) (qB aA.out) hb);have n1_:=A' (W' (qK1 HB.out aE.out) hb);have n2_:=A' (hbox);have n3_:=A' ((by rw[hg];exact(V' (qK1 HB.out aE.out)):w.heap.size≤aC));have n4_:=A' ((by rw[hg];exact(V' (qK1 HB.out aE.out)):w.heap.size≤aC));have n5_:=A' ((by rw[hg];exact Nat.ne_of_lt (bL' (g:=aB) (qB aA.out)):aB≠aC));have n6_:=A' ((by rw[hg];exact Nat.ne_of_gt (bL' (g:=aB) (qB aA.out)):aC≠aB));clear aA;clear HB;have aA:=n0_;have HB:=n1_;have aD:=n2_;have aP:=n3_;have aN:=n4_;have aG:=n5_;have aF:=n6_;clear n0_ n1_ n2_ n3_ n4_ n5_ n6_;clear hb hbox hg;have cX:=aG.out;have cV:=aF.out;have cN:w7.cell? ⟨aB,0,none⟩=some (.int .i64 aL):=(N' aA.out 0).trans rfl;have cM:w7.cell? ⟨aB,1,none⟩=some (.int .i64 aJ):=(N' aA.out 1).trans rfl;have cJ:w7.cell? ⟨aB,2,none⟩=some (.bool aI):=(N' aA.out 2).trans rfl;have cO:=Y' aA.out 0;have cL:=Y' aA.out 1;have cK:=Y' aA.out 2;have aY:w7.cell? ⟨aC,0,none⟩=some (.int .i64 aM):=(N' aD.out 0).trans rfl;have cE:w7.cell? ⟨aC,1,none⟩=some (.int .i64 aK):=(N' aD.out 1).trans rfl;have aW:w7.cell? ⟨aC,2,none⟩=some (.bool aH):=(N' aD.out 2).trans rfl;have bT:=Y' aD.out 0;have cH:=Y' aD.out 1;have aZ:=Y' aD.out 2));go_ret;exact⟨qE,qK2 HB.out aE.out aN.out⟩
   ·rw[if_neg c5]at H;have c5b0:(aI != aH)=false:=by simpa using c5
    (try(have c5b1:decide (aI=aH)=true:=by simpa using c5));(try(have c5b2:(aI == aH)=true:=by simpa using c5));clear c5;obtain rfl:=Option.some.inj H;go_enter Try.func95,Try.ntmps95;go_wp2_with (first|((with_reducible refine gate_dst (N:=2) rfl ?_);refine box_event ?hg (N:=2) ?hd (cs:=#[.int .i64 aL,.int .i64 aJ,.bool aI]) (t:=90) ?hr ?_;(case hd=>rfl);(case hg=>rfl);(case hr=>first|(go_simp;done)|(go_simp;rfl));intro aB hg cY hbox hb;have n0_:=A' (W' (qK0 HB.out) hb);have n1_:=A' (hbox);have n2_:=A' ((by rw[hg];exact(V' (qK0 HB.out)):w.heap.size≤aB));have n3_:=A' ((by rw[hg];exact(V' (qK0 HB.out)):w.heap.size≤aB));clear HB;have HB:=n0_;have aA:=n1_;have aO:=n2_;have aE:=n3_;clear n0_ n1_ n2_ n3_;clear hb hbox hg)|((with_reducible refine gate_dst (N:=3) rfl ?_);refine box_event ?hg (N:=3) ?hd (cs:=#[.int .i64 aM,.int .i64 aK,.bool aH]) (t:=90) ?hr ?_;(case hd=>rfl);(case hg=>rfl);(case hr=>first|(go_simp;done)|(go_simp;rfl));intro aC hg aR hbox hb;have n0_:=A' (O' (g:=aB) (qB aA.out) hb);have n1_:=A' (W' (qK1 HB.out aE.out) hb);have n2_:=A' (hbox);have n3_:=A' ((by rw[hg];exact(V' (qK1 HB.out aE.out)):w.heap.size≤aC));have n4_:=A' ((by rw[hg];exact(V' (qK1 HB.out aE.out)):w.heap.size≤aC));have n5_:=A' ((by rw[hg];exact Nat.ne_of_lt (bL' (g:=aB) (qB aA.out)):aB≠aC));have n6_:=A' ((by rw[hg];exact Nat.ne_of_gt (bL' (g:=aB) (qB aA.out)):aC≠aB));clear aA;clear HB;have aA:=n0_;have HB:=n1_;have aD:=n2_;have aP:=n3_;have aN:=n4_;have aG:=n5_;have aF:=n6_;clear n0_ n1_ n2_ n3_ n4_ n5_ n6_;clear hb hbox hg;have cU:=aG.out;have cT:=aF.out;have aU:aR.cell? ⟨aB,0,none⟩=some (.int .i64 aL):=(N' aA.out 0).trans rfl;have bN:aR.cell? ⟨aB,1,none⟩=some (.int .i64 aJ):=(N' aA.out 1).trans rfl;have bP:aR.cell? ⟨aB,2,none⟩=some (.bool aI):=(N' aA.out 2).trans rfl;have cF:=Y' aA.out 0;have bZ:=Y' aA.out 1;have bR:=Y' aA.out 2;have cA:aR.cell? ⟨aC,0,none⟩=some (.int .i64 aM):=(N' aD.out 0).trans rfl;have bL:aR.cell? ⟨aC,1,none⟩=some (.int .i64 aK):=(N' aD.out 1).trans rfl;have cG:aR.cell? ⟨aC,2,none⟩=some (.bool aH):=(N' aD.out 2).trans rfl;have bF:=Y' aD.out 0;have bB:=Y' aD.out 1;have bC:=Y' aD.out 2));go_ret;exact⟨qE,qK2 HB.out aE.out aN.out⟩
  ·rw[if_neg c4]at H;have c4b0:(aJ == aK)=false:=beq_eq_false_iff_ne.mpr c4;have c4b1:(aJ != aK)=true:=bne_iff_ne.mpr c4;obtain rfl:=Option.some.inj H;go_enter Try.func95,Try.ntmps95;go_wp2_with (first|((with_reducible refine gate_dst (N:=2) rfl ?_);refine box_event ?hg (N:=2) ?hd (cs:=#[.int .i64 aL,.int .i64 aJ,.bool aI]) (t:=90) ?hr ?_;(case hd=>rfl);(case hg=>rfl);(case hr=>first|(go_simp;done)|(go_simp;rfl));intro aB hg cZ hbox hb;have n0_:=A' (W' (qK0 HB.out) hb);have n1_:=A' (hbox);have n2_:=A' ((by rw[hg];exact(V' (qK0 HB.out)):w.heap.size≤aB));have n3_:=A' ((by rw[hg];exact(V' (qK0 HB.out)):w.heap.size≤aB));clear HB;have HB:=n0_;have aA:=n1_;have aO:=n2_;have aE:=n3_;clear n0_ n1_ n2_ n3_;clear hb hbox hg)|((with_reducible refine gate_dst (N:=3) rfl ?_);refine box_event ?hg (N:=3) ?hd (cs:=#[.int .i64 aM,.int .i64 aK,.bool aH]) (t:=90) ?hr ?_;(case hd=>rfl);(case hg=>rfl);(case hr=>first|(go_simp;done)|(go_simp;rfl));intro aC hg aQ hbox hb;have n0_:=A' (O' (g:=aB) (qB aA.out) hb);have n1_:=A' (W' (qK1 HB.out aE.out) hb);have n2_:=A' (hbox);have n3_:=A' ((by rw[hg];exact(V' (qK1 HB.out aE.out)):w.heap.size≤aC));have n4_:=A' ((by rw[hg];exact(V' (qK1 HB.out aE.out)):w.heap.size≤aC));have n5_:=A' ((by rw[hg];exact Nat.ne_of_lt (bL' (g:=aB) (qB aA.out)):aB≠aC));have n6_:=A' ((by rw[hg];exact Nat.ne_of_gt (bL' (g:=aB) (qB aA.out)):aC≠aB));clear aA;clear HB;have aA:=n0_;have HB:=n1_;have aD:=n2_;have aP:=n3_;have aN:=n4_;have aG:=n5_;have aF:=n6_;clear n0_ n1_ n2_ n3_ n4_ n5_ n6_;clear hb hbox hg;have cS:=aG.out;have cQ:=aF.out;have bH:aQ.cell? ⟨aB,0,none⟩=some (.int .i64 aL):=(N' aA.out 0).trans rfl;have bK:aQ.cell? ⟨aB,1,none⟩=some (.int .i64 aJ):=(N' aA.out 1).trans rfl;have bA:aQ.cell? ⟨aB,2,none⟩=some (.bool aI):=(N' aA.out 2).trans rfl;have bW:=Y' aA.out 0;have bD:=Y' aA.out 1;have bU:=Y' aA.out 2;have bS:aQ.cell? ⟨aC,0,none⟩=some (.int .i64 aM):=(N' aD.out 0).trans rfl;have aV:aQ.cell? ⟨aC,1,none⟩=some (.int .i64 aK):=(N' aD.out 1).trans rfl;have bV:aQ.cell? ⟨aC,2,none⟩=some (.bool aH):=(N' aD.out 2).trans rfl;have bE:=Y' aD.out 0;have bI:=Y' aD.out 1;have aT:=Y' aD.out 2));go_ret;exact⟨qE,qK2 HB.out aE.out aN.out⟩
 ·rw[if_neg c3]at H;have c3b0:(aL == aM)=false:=beq_eq_false_iff_ne.mpr c3;have c3b1:(aL != aM)=true:=bne_iff_ne.mpr c3;obtain rfl:=Option.some.inj H;go_enter Try.func95,Try.ntmps95;go_wp2_with (first|((with_reducible refine gate_dst (N:=2) rfl ?_);refine box_event ?hg (N:=2) ?hd (cs:=#[.int .i64 aL,.int .i64 aJ,.bool aI]) (t:=90) ?hr ?_;(case hd=>rfl);(case hg=>rfl);(case hr=>first|(go_simp;done)|(go_simp;rfl));intro aB hg dA hbox hb;have n0_:=A' (W' (qK0 HB.out) hb);have n1_:=A' (hbox);have n2_:=A' ((by rw[hg];exact(V' (qK0 HB.out)):w.heap.size≤aB));have n3_:=A' ((by rw[hg];exact(V' (qK0 HB.out)):w.heap.size≤aB));clear HB;have HB:=n0_;have aA:=n1_;have aO:=n2_;have aE:=n3_;clear n0_ n1_ n2_ n3_;clear hb hbox hg)|((with_reducible refine gate_dst (N:=3) rfl ?_);refine box_event ?hg (N:=3) ?hd (cs:=#[.int .i64 aM,.int .i64 aK,.bool aH]) (t:=90) ?hr ?_;(case hd=>rfl);(case hg=>rfl);(case hr=>first|(go_simp;done)|(go_simp;rfl));intro aC hg aS hbox hb;have n0_:=A' (O' (g:=aB) (qB aA.out) hb);have n1_:=A' (W' (qK1 HB.out aE.out) hb);have n2_:=A' (hbox);have n3_:=A' ((by rw[hg];exact(V' (qK1 HB.out aE.out)):w.heap.size≤aC));have n4_:=A' ((by rw[hg];exact(V' (qK1 HB.out aE.out)):w.heap.size≤aC));have n5_:=A' ((by rw[hg];exact Nat.ne_of_lt (bL' (g:=aB) (qB aA.out)):aB≠aC));have n6_:=A' ((by rw[hg];exact Nat.ne_of_gt (bL' (g:=aB) (qB aA.out)):aC≠aB));clear aA;clear HB;have aA:=n0_;have HB:=n1_;have aD:=n2_;have aP:=n3_;have aN:=n4_;have aG:=n5_;have aF:=n6_;clear n0_ n1_ n2_ n3_ n4_ n5_ n6_;clear hb hbox hg;have cR:=aG.out;have cP:=aF.out;have cI:aS.cell? ⟨aB,0,none⟩=some (.int .i64 aL):=(N' aA.out 0).trans rfl;have bM:aS.cell? ⟨aB,1,none⟩=some (.int .i64 aJ):=(N' aA.out 1).trans rfl;have aX:aS.cell? ⟨aB,2,none⟩=some (.bool aI):=(N' aA.out 2).trans rfl;have cB:=Y' aA.out 0;have cD:=Y' aA.out 1;have bY:=Y' aA.out 2;have cC:aS.cell? ⟨aC,0,none⟩=some (.int .i64 aM):=(N' aD.out 0).trans rfl;have bX:aS.cell? ⟨aC,1,none⟩=some (.int .i64 aK):=(N' aD.out 1).trans rfl;have bJ:aS.cell? ⟨aC,2,none⟩=some (.bool aH):=(N' aD.out 2).trans rfl;have bO:=Y' aD.out 0;have bQ:=Y' aD.out 1;have bG:=Y' aD.out 2));go_ret;exact⟨qE,qK2 HB.out aE.out aN.out⟩
/-! ### laws_eqKnotS: function 56 -/
def laws_eqKnotS.l0:Nat→List (S90)→List (S90)→Int→Option (Bool)
 |0,_,_,_=>none
 |k+1,x0,x1,x5=>if x5<(x0.length:Int)then(if 0≤x5 then(if x5<(x1.length:Int)then((laws_eqKnot.f ((rd_T90 x0 x5).f0) ((rd_T90 x0 x5).f1) ((rd_T90 x0 x5).f2) ((rd_T90 x1 x5).f0) ((rd_T90 x1 x5).f1) ((rd_T90 x1 x5).f2)).bind fun aA=>(if aA=true then(laws_eqKnotS.l0 k x0 x1 (wrap64 (x5+1)))else(some false)))else(none))else(none))else(some true)
def laws_eqKnotS.f (k:Nat) (l0:List (S90)) (l1:List (S90)):Option (Bool):=if(l0.length:Int)=(l1.length:Int)then(laws_eqKnotS.l0 k l0 l1 0)else(some false)
theorem laws_eqKnotS.mono_l: ∀k,(∀y0 y1 y2,LeO (laws_eqKnotS.l0 k y0 y1 y2) (laws_eqKnotS.l0 (k+1) y0 y1 y2))
 |0=>fun _ _ _ r h=>by simp[laws_eqKnotS.l0]at h
 |k+1=>by
  have aA:=laws_eqKnotS.mono_l k
  ·intro y0 y1 y2
   unfold laws_eqKnotS.l0
   repeat' first
   |(with_reducible exact aA _ _ _)
   |(with_reducible exact LeO.refl _)
   |(with_reducible exact LeO.none _)
   |(with_reducible refine LeO.ite ?_ ?_)
   |(with_reducible refine LeO.bind ?_ (fun _=>?_))
   |exact LeO.none _
   |refine LeO.ite ?_ ?_
   |refine LeO.bind ?_ (fun _=>?_)
theorem laws_eqKnotS.mono: ∀a0 a1 k,LeO (laws_eqKnotS.f k a0 a1) (laws_eqKnotS.f (k+1) a0 a1):=by
 intro a0 a1 k
 have aA:=laws_eqKnotS.mono_l k
 unfold laws_eqKnotS.f
 repeat' first
  |(with_reducible exact aA _ _ _)
  |(with_reducible exact LeO.refl _)
  |(with_reducible exact LeO.none _)
  |(with_reducible refine LeO.ite ?_ ?_)
  |(with_reducible refine LeO.bind ?_ (fun _=>?_))
  |exact LeO.none _
  |refine LeO.ite ?_ ?_
  |refine LeO.bind ?_ (fun _=>?_)
def laws_eqKnotS.T6:Bool×List (List Nat×List Nat):=(true,[([],[]),([],[]),([0,1],[0,1]),([2],[2]),([],[]),([],[]),([4,5],[4,5]),([6],[6]),([3,7],[3,7]),([8],[8])])
def laws_eqKnotS.B6:List Nat:=[0,0,3,7,0,0,48,112,255,511]
theorem laws_eqKnotS.tab6:rtab .any (opsOf Try.f56 6)=laws_eqKnotS.T6:=by kernel_rfl
theorem laws_eqKnotS.bits6:waitsOk laws_eqKnotS.T6.2 laws_eqKnotS.B6=true:=by kernel_rfl
set_option maxHeartbeats 8000000 in
set_option maxRecDepth 100000 in
theorem laws_eqKnotS.calls (k:Nat) (A0:Option Addr) (c0:Nat) (l0:List (S90)) (A1:Option Addr) (c1:Nat) (l1:List (S90)) (r:Bool) (w:World) (bB:Kd.C k90 w A0 l0.length l0) (bC:l0.length≤c0) (aX:Kd.C k90 w A1 l1.length l1) (aW:l1.length≤c1) (h:laws_eqKnotS.f k l0 l1=some r):
 Calls Try.prog 56 #[.slice A0 l0.length c0,.slice A1 l1.length c1] w fun e w'=>e= .returned (.bool r)∧Below w.heap.size w w':=by
 have bE:=Try.underlying90;have bD:=A' bB;have bI:=A' bC;clear bB bC;have aY:=A' aX;have bH:=A' aW;clear aX aW;have HB:=A' (Below.refl w.heap.size w);have H:(if(l0.length:Int)=(l1.length:Int)then(laws_eqKnotS.l0 k l0 l1 0)else(some false))=some r:=h;clear h
 by_cases c3:(l0.length:Int)=(l1.length:Int)
 ·rw[if_pos c3]at H;have c3b0:((l0.length:Int) == (l1.length:Int))=true:=beq_iff_eq.mpr c3;have c3b1:((l0.length:Int) != (l1.length:Int))=false:=bne_eq_false_iff_eq.mpr c3;have c3b2:(l0.length == l1.length)=true:=by first|simpa using c3|(simp at c3 ⊢;omega)
  clear c3;have H':=A' H;clear H;go_enter Try.func56,Try.ntmps56;go_wp2
  go_loopg [5] k (fun kq v5 w'=>∃(aA:Int),v5= .int .i64 aA∧Aside0 (laws_eqKnotS.l0 kq l0 l1 aA=some r)∧Aside0 (kq≤k)∧Aside0 (Below w.heap.size w w'))
  case atStart=>exact⟨(0),qS,H',⟨Nat.le_refl _⟩,⟨qK0 HB.out⟩⟩
  case round=>
   clear H';try clear c1
   try clear p2
   try clear c3
   try clear c3b0
   try clear c3b1
   try clear c3b2
   obtain⟨aA,rfl,HA,aZ,HB⟩:=hrel
   cases gk with
   |zero=>exact absurd HA.out (by simp[laws_eqKnotS.l0])
   |succ k1=>
    have H:=HA.out;clear HA;simp only[laws_eqKnotS.l0]at H
    by_cases c4:aA<(l0.length:Int)
    ·rw[if_pos c4]at H;have c4b0:decide (aA<(l0.length:Int))=true:=dT' c4;clear c4
     by_cases c5:0≤aA
     ·rw[if_pos c5]at H;have c5b0:decide (0≤aA)=true:=dT' c5;clear c5
      by_cases c6:aA<(l1.length:Int)
      ·rw[if_pos c6]at H;have c6b0:decide (aA<(l1.length:Int))=true:=dT' c6;clear c6;replace H:=Option.bind_eq_some_iff.mp H;obtain⟨aV,bA,H⟩:=H;replace H:(if aV=true then(laws_eqKnotS.l0 k1 l0 l1 (wrap64 (aA+1)))else(some false))=some r:=H;have A7:=A' bA;clear bA
       by_cases c8:aV=true
       ·subst c8;have H1:(laws_eqKnotS.l0 k1 l0 l1 (wrap64 (aA+1)))=some r:=by rw[if_pos rfl]at H;exact H
        clear H;have H:=H1;clear H1;have H':=A' H;clear H;try go_wp2
        replace HB:=A' (J' HB.out);have aQ:0≤(aA:Int):=oD' qA;have aP:aA<(l0.length:Int):=oD' qA;obtain⟨aI,aU,aG,aC,aD⟩:=at_T90 bD.out aA aQ aP;have aM:=aD;have aK:=aC;have aJ:=aG
        cases aU
        try replace aG:=qC HB.out aG
        try replace aC:=qC HB.out aC
        try replace aD:=qC HB.out aD
        replace aQ:=eq_true aQ;replace aP:=eq_true aP;have aR:0≤(aA:Int):=oD' qA;have aS:aA<(l1.length:Int):=oD' qA;obtain⟨aH,aT,aE,aB,aF⟩:=at_T90 aY.out aA aR aS;have aO:=aF;have aN:=aB;have aL:=aE
        cases aT
        try replace aE:=qC HB.out aE
        try replace aB:=qC HB.out aB
        try replace aF:=qC HB.out aF
        replace aR:=eq_true aR;replace aS:=eq_true aS;refine start_ (n:=10) (S:=fun w'=>w'.cell? (aI.add ((aA).toNat*3))=some (.int .i64 ((rd_T90 l0 aA).f0))∧w'.cell? ⟨(aI.add ((aA).toNat*3)).block,(aI.add ((aA).toNat*3)).off+1,none⟩=some (.int .i64 ((rd_T90 l0 aA).f1))∧w'.cell? ⟨(aI.add ((aA).toNat*3)).block,(aI.add ((aA).toNat*3)).off+2,none⟩=some (.bool ((rd_T90 l0 aA).f2))∧w'.cell? (aH.add ((aA).toNat*3))=some (.int .i64 ((rd_T90 l1 aA).f0))∧w'.cell? ⟨(aH.add ((aA).toNat*3)).block,(aH.add ((aA).toNat*3)).off+1,none⟩=some (.int .i64 ((rd_T90 l1 aA).f1))∧w'.cell? ⟨(aH.add ((aA).toNat*3)).block,(aH.add ((aA).toNat*3)).off+2,none⟩=some (.bool ((rd_T90 l1 aA).f2))) (ds:=[]) #[n',n',n',n',n',n',n',n',n',n'] (by kernel_rfl) rfl rfl ⟨(qC HB.out aJ:),(qC HB.out aK:),(qC HB.out aM:),(qC HB.out aL:),(qC HB.out aN:),(qC HB.out aO:)⟩ (fun hHeld=>?_);refine with_tabW laws_eqKnotS.tab6 laws_eqKnotS.bits6 (fun HT_ HW_=>?_)
        generalize wr.drew=w9 at HB aG aC aD aE aB aF hHeld ⊢
        refine pure_ (i:=0) (N:=some 17) (v:=?_) (a':=?_) #[y',n',n',n',n',n',n',n',n',n'] rfl rfl (any_of HT_.out (by kernel_rfl)) (fun _ _ _ h=>h) (Or.inl ⟨by rfl,?_⟩) ?_ ?_;rotate_left
        ·exact qI
        rotate_left
        ·exact qP
        refine pure_ (i:=1) (N:=some 18) (v:=?_) (a':=?_) #[y',y',n',n',n',n',n',n',n',n'] rfl rfl (any_of HT_.out (by kernel_rfl)) (fun _ _ _ h=>h) (Or.inl ⟨by rfl,?_⟩) ?_ ?_;rotate_left
        ·exact qI
        rotate_left
        ·exact qP
        refine pure_ (i:=2) (N:=some 19) (v:=?_) (a':=?_) #[y',y',y',n',n',n',n',n',n',n'] rfl rfl (any_of HT_.out (by kernel_rfl)) (fun _ _ _ h=>h) (Or.inl ⟨by rfl,?_⟩) ?_ ?_;rotate_left
        ·exact qI
        rotate_left
        ·exact qP
        refine pure_ (i:=4) (N:=some 21) (v:=?_) (a':=?_) #[y',y',y',n',y',n',n',n',n',n'] rfl rfl (any_of HT_.out (by kernel_rfl)) (fun _ _ _ h=>h) (Or.inl ⟨by rfl,?_⟩) ?_ ?_;rotate_left
        ·exact qI
        rotate_left
        ·exact qP
        refine pure_ (i:=5) (N:=some 22) (v:=?_) (a':=?_) #[y',y',y',n',y',y',n',n',n',n'] rfl rfl (any_of HT_.out (by kernel_rfl)) (fun _ _ _ h=>h) (Or.inl ⟨by rfl,?_⟩) ?_ ?_;rotate_left
        ·exact qI
        rotate_left
        ·exact qP
        refine pure_ (i:=6) (N:=some 23) (v:=?_) (a':=?_) #[y',y',y',n',y',y',y',n',n',n'] rfl rfl (any_of HT_.out (by kernel_rfl)) (fun _ _ _ h=>h) (Or.inl ⟨by rfl,?_⟩) ?_ ?_;rotate_left
        ·exact qI
        rotate_left
        ·exact qP
        refine take_ (i:=3) (N:=some 20) (v:=?_) (a':=?_) #[y',y',y',y',y',y',y',n',n',n'] rfl rfl (take_ofW HT_.out HW_.out (by kernel_rfl)) (fun _ _ _ h=>h) (Or.inl ⟨by rfl,?_⟩) hHeld ?_ ?_;rotate_left
        ·rintro w' ⟨s0,s1,s2,s3,s4,s5⟩;go_simp;with_reducible rfl
        rotate_left
        ·exact qP
        refine take_ (i:=7) (N:=some 24) (v:=?_) (a':=?_) #[y',y',y',y',y',y',y',y',n',n'] rfl rfl (take_ofW HT_.out HW_.out (by kernel_rfl)) (fun _ _ _ h=>h) (Or.inl ⟨by rfl,?_⟩) hHeld ?_ ?_;rotate_left
        ·rintro w' ⟨s0,s1,s2,s3,s4,s5⟩;go_simp;with_reducible rfl
        rotate_left
        ·exact qP
        refine one_ (i:=8) (N:=some 25) #[y',y',y',y',y',y',y',y',y',n'] rfl rfl (one_of HT_.out (by kernel_rfl)) (by decide) (fun K hK=>?_);refine goes_ Try.func95 (by kernel_rfl) rfl #[.agg #[.int .i64 ((rd_T90 l0 aA).f0),.int .i64 ((rd_T90 l0 aA).f1),.bool ((rd_T90 l0 aA).f2)],.agg #[.int .i64 ((rd_T90 l1 aA).f0),.int .i64 ((rd_T90 l1 aA).f1),.bool ((rd_T90 l1 aA).f2)]] (by rfl) rfl rfl (by(try simp only[List.map_toArray,List.map_cons,List.map_nil]);first|done|rfl|(simp only[List.length_drop,List.length_take];rfl)) ?_
        with_reducible refine(laws_eqKnot.calls ((rd_T90 l0 aA).f0) ((rd_T90 l0 aA).f1) ((rd_T90 l0 aA).f2) ((rd_T90 l1 aA).f0) ((rd_T90 l1 aA).f1) ((rd_T90 l1 aA).f2) true _ A7.out).mono ?_
        rintro e bG ⟨rfl,hb⟩;refine⟨_,rfl,?_⟩;replace HB:=A' (W' (qK0 HB.out) hb);(try clear hb);(try clear hb2);(try clear hk);(try clear hi);refine hK.out _ _ ⟨(qC HB.out aJ:),(qC HB.out aK:),(qC HB.out aM:),(qC HB.out aL:),(qC HB.out aN:),(qC HB.out aO:)⟩ (fun hHeld=>?_);clear hK K;refine norm_ (a':=?_) ?_ ?_;rotate_left
        ·show Act.put _ (some 25) _=_
         exact qP
        refine pure_ (i:=9) (N:=some 26) (v:=?_) (a':=?_) #[y',y',y',y',y',y',y',y',y',y'] rfl rfl (any_of HT_.out (by kernel_rfl)) (fun _ _ _ h=>h) (Or.inl ⟨by rfl,?_⟩) ?_ ?_;rotate_left
        ·exact qI
        rotate_left
        ·exact qP
        refine done_ (done_of HT_.out (by kernel_rfl)) ?_;try go_wp2
        go_roundg k1
        case measure=>have:=aZ.out;omega
        case rel=>exact⟨(wrap64 (aA+1)),qS,H',⟨by have:=aZ.out;omega⟩,⟨qK0 HB.out⟩⟩
       ·replace c8:=Bool.eq_false_iff.mpr c8;subst c8;have H1:(some false)=some r:=by rw[if_neg (show¬(false=true) by decide)]at H;exact H
        clear H;have H:=H1;clear H1;obtain rfl:=Option.some.inj H;try go_wp2
        replace HB:=A' (J' HB.out);have aQ:0≤(aA:Int):=oD' qA;have aP:aA<(l0.length:Int):=oD' qA;obtain⟨aI,aU,aG,aC,aD⟩:=at_T90 bD.out aA aQ aP;have aM:=aD;have aK:=aC;have aJ:=aG
        cases aU
        try replace aG:=qC HB.out aG
        try replace aC:=qC HB.out aC
        try replace aD:=qC HB.out aD
        replace aQ:=eq_true aQ;replace aP:=eq_true aP;have aR:0≤(aA:Int):=oD' qA;have aS:aA<(l1.length:Int):=oD' qA;obtain⟨aH,aT,aE,aB,aF⟩:=at_T90 aY.out aA aR aS;have aO:=aF;have aN:=aB;have aL:=aE
        cases aT
        try replace aE:=qC HB.out aE
        try replace aB:=qC HB.out aB
        try replace aF:=qC HB.out aF
        replace aR:=eq_true aR;replace aS:=eq_true aS;refine start_ (n:=10) (S:=fun w'=>w'.cell? (aI.add ((aA).toNat*3))=some (.int .i64 ((rd_T90 l0 aA).f0))∧w'.cell? ⟨(aI.add ((aA).toNat*3)).block,(aI.add ((aA).toNat*3)).off+1,none⟩=some (.int .i64 ((rd_T90 l0 aA).f1))∧w'.cell? ⟨(aI.add ((aA).toNat*3)).block,(aI.add ((aA).toNat*3)).off+2,none⟩=some (.bool ((rd_T90 l0 aA).f2))∧w'.cell? (aH.add ((aA).toNat*3))=some (.int .i64 ((rd_T90 l1 aA).f0))∧w'.cell? ⟨(aH.add ((aA).toNat*3)).block,(aH.add ((aA).toNat*3)).off+1,none⟩=some (.int .i64 ((rd_T90 l1 aA).f1))∧w'.cell? ⟨(aH.add ((aA).toNat*3)).block,(aH.add ((aA).toNat*3)).off+2,none⟩=some (.bool ((rd_T90 l1 aA).f2))) (ds:=[]) #[n',n',n',n',n',n',n',n',n',n'] (by kernel_rfl) rfl rfl ⟨(qC HB.out aJ:),(qC HB.out aK:),(qC HB.out aM:),(qC HB.out aL:),(qC HB.out aN:),(qC HB.out aO:)⟩ (fun hHeld=>?_);refine with_tabW laws_eqKnotS.tab6 laws_eqKnotS.bits6 (fun HT_ HW_=>?_)
        generalize wr.drew=w11 at HB aG aC aD aE aB aF hHeld ⊢
        refine pure_ (i:=0) (N:=some 17) (v:=?_) (a':=?_) #[y',n',n',n',n',n',n',n',n',n'] rfl rfl (any_of HT_.out (by kernel_rfl)) (fun _ _ _ h=>h) (Or.inl ⟨by rfl,?_⟩) ?_ ?_;rotate_left
        ·exact qI
        rotate_left
        ·exact qP
        refine pure_ (i:=1) (N:=some 18) (v:=?_) (a':=?_) #[y',y',n',n',n',n',n',n',n',n'] rfl rfl (any_of HT_.out (by kernel_rfl)) (fun _ _ _ h=>h) (Or.inl ⟨by rfl,?_⟩) ?_ ?_;rotate_left
        ·exact qI
        rotate_left
        ·exact qP
        refine pure_ (i:=2) (N:=some 19) (v:=?_) (a':=?_) #[y',y',y',n',n',n',n',n',n',n'] rfl rfl (any_of HT_.out (by kernel_rfl)) (fun _ _ _ h=>h) (Or.inl ⟨by rfl,?_⟩) ?_ ?_;rotate_left
        ·exact qI
        rotate_left
        ·exact qP
        refine pure_ (i:=4) (N:=some 21) (v:=?_) (a':=?_) #[y',y',y',n',y',n',n',n',n',n'] rfl rfl (any_of HT_.out (by kernel_rfl)) (fun _ _ _ h=>h) (Or.inl ⟨by rfl,?_⟩) ?_ ?_;rotate_left
        ·exact qI
        rotate_left
        ·exact qP
        refine pure_ (i:=5) (N:=some 22) (v:=?_) (a':=?_) #[y',y',y',n',y',y',n',n',n',n'] rfl rfl (any_of HT_.out (by kernel_rfl)) (fun _ _ _ h=>h) (Or.inl ⟨by rfl,?_⟩) ?_ ?_;rotate_left
        ·exact qI
        rotate_left
        ·exact qP
        refine pure_ (i:=6) (N:=some 23) (v:=?_) (a':=?_) #[y',y',y',n',y',y',y',n',n',n'] rfl rfl (any_of HT_.out (by kernel_rfl)) (fun _ _ _ h=>h) (Or.inl ⟨by rfl,?_⟩) ?_ ?_;rotate_left
        ·exact qI
        rotate_left
        ·exact qP
        refine take_ (i:=3) (N:=some 20) (v:=?_) (a':=?_) #[y',y',y',y',y',y',y',n',n',n'] rfl rfl (take_ofW HT_.out HW_.out (by kernel_rfl)) (fun _ _ _ h=>h) (Or.inl ⟨by rfl,?_⟩) hHeld ?_ ?_;rotate_left
        ·rintro w' ⟨s0,s1,s2,s3,s4,s5⟩;go_simp;with_reducible rfl
        rotate_left
        ·exact qP
        refine take_ (i:=7) (N:=some 24) (v:=?_) (a':=?_) #[y',y',y',y',y',y',y',y',n',n'] rfl rfl (take_ofW HT_.out HW_.out (by kernel_rfl)) (fun _ _ _ h=>h) (Or.inl ⟨by rfl,?_⟩) hHeld ?_ ?_;rotate_left
        ·rintro w' ⟨s0,s1,s2,s3,s4,s5⟩;go_simp;with_reducible rfl
        rotate_left
        ·exact qP
        refine one_ (i:=8) (N:=some 25) #[y',y',y',y',y',y',y',y',y',n'] rfl rfl (one_of HT_.out (by kernel_rfl)) (by decide) (fun K hK=>?_);refine goes_ Try.func95 (by kernel_rfl) rfl #[.agg #[.int .i64 ((rd_T90 l0 aA).f0),.int .i64 ((rd_T90 l0 aA).f1),.bool ((rd_T90 l0 aA).f2)],.agg #[.int .i64 ((rd_T90 l1 aA).f0),.int .i64 ((rd_T90 l1 aA).f1),.bool ((rd_T90 l1 aA).f2)]] (by rfl) rfl rfl (by(try simp only[List.map_toArray,List.map_cons,List.map_nil]);first|done|rfl|(simp only[List.length_drop,List.length_take];rfl)) ?_
        with_reducible refine(laws_eqKnot.calls ((rd_T90 l0 aA).f0) ((rd_T90 l0 aA).f1) ((rd_T90 l0 aA).f2) ((rd_T90 l1 aA).f0) ((rd_T90 l1 aA).f1) ((rd_T90 l1 aA).f2) false _ A7.out).mono ?_
        rintro e bF ⟨rfl,hb⟩;refine⟨_,rfl,?_⟩;replace HB:=A' (W' (qK0 HB.out) hb);(try clear hb);(try clear hb2);(try clear hk);(try clear hi);refine hK.out _ _ ⟨(qC HB.out aJ:),(qC HB.out aK:),(qC HB.out aM:),(qC HB.out aL:),(qC HB.out aN:),(qC HB.out aO:)⟩ (fun hHeld=>?_);clear hK K;refine norm_ (a':=?_) ?_ ?_;rotate_left
        ·show Act.put _ (some 25) _=_
         exact qP
        refine pure_ (i:=9) (N:=some 26) (v:=?_) (a':=?_) #[y',y',y',y',y',y',y',y',y',y'] rfl rfl (any_of HT_.out (by kernel_rfl)) (fun _ _ _ h=>h) (Or.inl ⟨by rfl,?_⟩) ?_ ?_;rotate_left
        ·exact qI
        rotate_left
        ·exact qP
        refine done_ (done_of HT_.out (by kernel_rfl)) ?_;try go_wp2
        go_ret;exact⟨qE,qK0 HB.out⟩
      ·rw[if_neg c6]at H;exact absurd H (by simp)
     ·rw[if_neg c5]at H;exact absurd H (by simp)
    ·rw[if_neg c4]at H;have c4b0:decide (aA<(l0.length:Int))=false:=dF' c4;clear c4;obtain rfl:=Option.some.inj H;go_wp2;go_ret;exact⟨qE,qK0 HB.out⟩
 ·rw[if_neg c3]at H;have c3b0:((l0.length:Int) == (l1.length:Int))=false:=beq_eq_false_iff_ne.mpr c3;have c3b1:((l0.length:Int) != (l1.length:Int))=true:=bne_iff_ne.mpr c3;have c3b2:(l0.length == l1.length)=false:=by first|simpa using c3|(simp at c3 ⊢;omega)
  obtain rfl:=Option.some.inj H;go_enter Try.func56,Try.ntmps56;go_wp2;go_ret;exact⟨qE,qK0 HB.out⟩
/-! ### laws_eqBar: function 96 -/
def laws_eqBar.f (aF:Int) (aD:Int) (aE:Bool) (aC:Int) (aB:Int) (aA:Bool):Option (Bool):=if aF=aC then(if aD=aB then(if(aE != aA)=true then(some false)else(some true))else(some false))else(some false)
set_option maxHeartbeats 8000000 in
set_option maxRecDepth 100000 in
theorem laws_eqBar.calls (aL:Int) (aJ:Int) (aI:Bool) (aM:Int) (aK:Int) (aH:Bool) (r:Bool) (w:World) (h:laws_eqBar.f aL aJ aI aM aK aH=some r):
 Calls Try.prog 96 #[.agg #[.int .i64 aL,.int .i64 aJ,.bool aI],.agg #[.int .i64 aM,.int .i64 aK,.bool aH]] w fun e w'=>e= .returned (.bool r)∧Below w.heap.size w w':=by
 have cP:=Try.underlying104;have HB:=A' (Below.refl w.heap.size w);have H:(if aL=aM then(if aJ=aK then(if(aI != aH)=true then(some false)else(some true))else(some false))else(some false))=some r:=h;clear h
 by_cases c3:aL=aM
 ·rw[if_pos c3]at H;have c3b0:(aL == aM)=true:=beq_iff_eq.mpr c3;have c3b1:(aL != aM)=false:=bne_eq_false_iff_eq.mpr c3;clear c3
  by_cases c4:aJ=aK
  ·rw[if_pos c4]at H;have c4b0:(aJ == aK)=true:=beq_iff_eq.mpr c4;have c4b1:(aJ != aK)=false:=bne_eq_false_iff_eq.mpr c4;clear c4
   by_cases c5:(aI != aH)=true
   ·rw[if_pos c5]at H;have c5b0:(aI != aH)=true:=c5;(try(have c5b1:decide (aI=aH)=false:=by simpa using c5));(try(have c5b2:(aI == aH)=false:=by simpa using c5));(try(have c5b3: ¬(aI=aH):=by simpa using c5));clear c5;obtain rfl:=Option.some.inj H;go_enter Try.func96,Try.ntmps96;go_wp2_with (first|((with_reducible refine gate_dst (N:=2) rfl ?_);refine box_event ?hg (N:=2) ?hd (cs:=#[.int .i64 aL,.int .i64 aJ,.bool aI]) (t:=104) ?hr ?_;(case hd=>rfl);(case hg=>rfl);(case hr=>first|(go_simp;done)|(go_simp;rfl));intro aB hg w6 hbox hb;have n0_:=A' (W' (qK0 HB.out) hb);have n1_:=A' (hbox);have n2_:=A' ((by rw[hg];exact(V' (qK0 HB.out)):w.heap.size≤aB));have n3_:=A' ((by rw[hg];exact(V' (qK0 HB.out)):w.heap.size≤aB));clear HB;have HB:=n0_;have aA:=n1_;have aO:=n2_;have aE:=n3_;clear n0_ n1_ n2_ n3_;clear hb hbox hg)|((with_reducible refine gate_dst (N:=3) rfl ?_);refine box_event ?hg (N:=3) ?hd (cs:=#[.int .i64 aM,.int .i64 aK,.bool aH]) (t:=104) ?hr ?_;(case hd=>rfl);(case hg=>rfl);(case hr=>first|(go_simp;done)|(go_simp;rfl));intro aC hg w7 hbox hb;have n0_:=A' (O' (g:=aB) (qB aA.out) hb);have n1_:=A' (W' (qK1 HB.out aE.out) hb);have n2_:=A' (hbox);have n3_:=A' ((by rw[hg];exact(V' (qK1 HB.out aE.out)):w.heap.size≤aC));have n4_:=A' ((by rw[hg];exact(V' (qK1 HB.out aE.out)):w.heap.size≤aC));have n5_:=A' ((by rw[hg];exact Nat.ne_of_lt (bL' (g:=aB) (qB aA.out)):aB≠aC));have n6_:=A' ((by rw[hg];exact Nat.ne_of_gt (bL' (g:=aB) (qB aA.out)):aC≠aB));clear aA;clear HB;have aA:=n0_;have HB:=n1_;have aD:=n2_;have aP:=n3_;have aN:=n4_;have aF:=n5_;have aG:=n6_;clear n0_ n1_ n2_ n3_ n4_ n5_ n6_;clear hb hbox hg;have cX:=aF.out;have cW:=aG.out;have cN:w7.cell? ⟨aB,0,none⟩=some (.int .i64 aL):=(N' aA.out 0).trans rfl;have cM:w7.cell? ⟨aB,1,none⟩=some (.int .i64 aJ):=(N' aA.out 1).trans rfl;have cJ:w7.cell? ⟨aB,2,none⟩=some (.bool aI):=(N' aA.out 2).trans rfl;have cO:=Y' aA.out 0;have cL:=Y' aA.out 1;have cK:=Y' aA.out 2;have aY:w7.cell? ⟨aC,0,none⟩=some (.int .i64 aM):=(N' aD.out 0).trans rfl;have cE:w7.cell? ⟨aC,1,none⟩=some (.int .i64 aK):=(N' aD.out 1).trans rfl;have aW:w7.cell? ⟨aC,2,none⟩=some (.bool aH):=(N' aD.out 2).trans rfl;have bT:=Y' aD.out 0;have cH:=Y' aD.out 1;have aZ:=Y' aD.out 2));go_ret;exact⟨qE,qK2 HB.out aE.out aN.out⟩
   ·rw[if_neg c5]at H;have c5b0:(aI != aH)=false:=by simpa using c5
    (try(have c5b1:decide (aI=aH)=true:=by simpa using c5));(try(have c5b2:(aI == aH)=true:=by simpa using c5));clear c5;obtain rfl:=Option.some.inj H;go_enter Try.func96,Try.ntmps96;go_wp2_with (first|((with_reducible refine gate_dst (N:=2) rfl ?_);refine box_event ?hg (N:=2) ?hd (cs:=#[.int .i64 aL,.int .i64 aJ,.bool aI]) (t:=104) ?hr ?_;(case hd=>rfl);(case hg=>rfl);(case hr=>first|(go_simp;done)|(go_simp;rfl));intro aB hg cY hbox hb;have n0_:=A' (W' (qK0 HB.out) hb);have n1_:=A' (hbox);have n2_:=A' ((by rw[hg];exact(V' (qK0 HB.out)):w.heap.size≤aB));have n3_:=A' ((by rw[hg];exact(V' (qK0 HB.out)):w.heap.size≤aB));clear HB;have HB:=n0_;have aA:=n1_;have aO:=n2_;have aE:=n3_;clear n0_ n1_ n2_ n3_;clear hb hbox hg)|((with_reducible refine gate_dst (N:=3) rfl ?_);refine box_event ?hg (N:=3) ?hd (cs:=#[.int .i64 aM,.int .i64 aK,.bool aH]) (t:=104) ?hr ?_;(case hd=>rfl);(case hg=>rfl);(case hr=>first|(go_simp;done)|(go_simp;rfl));intro aC hg aR hbox hb;have n0_:=A' (O' (g:=aB) (qB aA.out) hb);have n1_:=A' (W' (qK1 HB.out aE.out) hb);have n2_:=A' (hbox);have n3_:=A' ((by rw[hg];exact(V' (qK1 HB.out aE.out)):w.heap.size≤aC));have n4_:=A' ((by rw[hg];exact(V' (qK1 HB.out aE.out)):w.heap.size≤aC));have n5_:=A' ((by rw[hg];exact Nat.ne_of_lt (bL' (g:=aB) (qB aA.out)):aB≠aC));have n6_:=A' ((by rw[hg];exact Nat.ne_of_gt (bL' (g:=aB) (qB aA.out)):aC≠aB));clear aA;clear HB;have aA:=n0_;have HB:=n1_;have aD:=n2_;have aP:=n3_;have aN:=n4_;have aF:=n5_;have aG:=n6_;clear n0_ n1_ n2_ n3_ n4_ n5_ n6_;clear hb hbox hg;have cV:=aF.out;have cU:=aG.out;have aU:aR.cell? ⟨aB,0,none⟩=some (.int .i64 aL):=(N' aA.out 0).trans rfl;have bN:aR.cell? ⟨aB,1,none⟩=some (.int .i64 aJ):=(N' aA.out 1).trans rfl;have bP:aR.cell? ⟨aB,2,none⟩=some (.bool aI):=(N' aA.out 2).trans rfl;have cF:=Y' aA.out 0;have bZ:=Y' aA.out 1;have bR:=Y' aA.out 2;have cA:aR.cell? ⟨aC,0,none⟩=some (.int .i64 aM):=(N' aD.out 0).trans rfl;have bL:aR.cell? ⟨aC,1,none⟩=some (.int .i64 aK):=(N' aD.out 1).trans rfl;have cG:aR.cell? ⟨aC,2,none⟩=some (.bool aH):=(N' aD.out 2).trans rfl;have bF:=Y' aD.out 0;have bB:=Y' aD.out 1;have bC:=Y' aD.out 2));go_ret;exact⟨qE,qK2 HB.out aE.out aN.out⟩
  ·rw[if_neg c4]at H;have c4b0:(aJ == aK)=false:=beq_eq_false_iff_ne.mpr c4;have c4b1:(aJ != aK)=true:=bne_iff_ne.mpr c4;obtain rfl:=Option.some.inj H;go_enter Try.func96,Try.ntmps96;go_wp2_with (first|((with_reducible refine gate_dst (N:=2) rfl ?_);refine box_event ?hg (N:=2) ?hd (cs:=#[.int .i64 aL,.int .i64 aJ,.bool aI]) (t:=104) ?hr ?_;(case hd=>rfl);(case hg=>rfl);(case hr=>first|(go_simp;done)|(go_simp;rfl));intro aB hg cZ hbox hb;have n0_:=A' (W' (qK0 HB.out) hb);have n1_:=A' (hbox);have n2_:=A' ((by rw[hg];exact(V' (qK0 HB.out)):w.heap.size≤aB));have n3_:=A' ((by rw[hg];exact(V' (qK0 HB.out)):w.heap.size≤aB));clear HB;have HB:=n0_;have aA:=n1_;have aO:=n2_;have aE:=n3_;clear n0_ n1_ n2_ n3_;clear hb hbox hg)|((with_reducible refine gate_dst (N:=3) rfl ?_);refine box_event ?hg (N:=3) ?hd (cs:=#[.int .i64 aM,.int .i64 aK,.bool aH]) (t:=104) ?hr ?_;(case hd=>rfl);(case hg=>rfl);(case hr=>first|(go_simp;done)|(go_simp;rfl));intro aC hg aQ hbox hb;have n0_:=A' (O' (g:=aB) (qB aA.out) hb);have n1_:=A' (W' (qK1 HB.out aE.out) hb);have n2_:=A' (hbox);have n3_:=A' ((by rw[hg];exact(V' (qK1 HB.out aE.out)):w.heap.size≤aC));have n4_:=A' ((by rw[hg];exact(V' (qK1 HB.out aE.out)):w.heap.size≤aC));have n5_:=A' ((by rw[hg];exact Nat.ne_of_lt (bL' (g:=aB) (qB aA.out)):aB≠aC));have n6_:=A' ((by rw[hg];exact Nat.ne_of_gt (bL' (g:=aB) (qB aA.out)):aC≠aB));clear aA;clear HB;have aA:=n0_;have HB:=n1_;have aD:=n2_;have aP:=n3_;have aN:=n4_;have aF:=n5_;have aG:=n6_;clear n0_ n1_ n2_ n3_ n4_ n5_ n6_;clear hb hbox hg;have cT:=aF.out;have cR:=aG.out;have bH:aQ.cell? ⟨aB,0,none⟩=some (.int .i64 aL):=(N' aA.out 0).trans rfl;have bK:aQ.cell? ⟨aB,1,none⟩=some (.int .i64 aJ):=(N' aA.out 1).trans rfl;have bA:aQ.cell? ⟨aB,2,none⟩=some (.bool aI):=(N' aA.out 2).trans rfl;have bW:=Y' aA.out 0;have bD:=Y' aA.out 1;have bU:=Y' aA.out 2;have bS:aQ.cell? ⟨aC,0,none⟩=some (.int .i64 aM):=(N' aD.out 0).trans rfl;have aV:aQ.cell? ⟨aC,1,none⟩=some (.int .i64 aK):=(N' aD.out 1).trans rfl;have bV:aQ.cell? ⟨aC,2,none⟩=some (.bool aH):=(N' aD.out 2).trans rfl;have bE:=Y' aD.out 0;have bI:=Y' aD.out 1;have aT:=Y' aD.out 2));go_ret;exact⟨qE,qK2 HB.out aE.out aN.out⟩
 ·rw[if_neg c3]at H;have c3b0:(aL == aM)=false:=beq_eq_false_iff_ne.mpr c3;have c3b1:(aL != aM)=true:=bne_iff_ne.mpr c3;obtain rfl:=Option.some.inj H;go_enter Try.func96,Try.ntmps96;go_wp2_with (first|((with_reducible refine gate_dst (N:=2) rfl ?_);refine box_event ?hg (N:=2) ?hd (cs:=#[.int .i64 aL,.int .i64 aJ,.bool aI]) (t:=104) ?hr ?_;(case hd=>rfl);(case hg=>rfl);(case hr=>first|(go_simp;done)|(go_simp;rfl));intro aB hg dA hbox hb;have n0_:=A' (W' (qK0 HB.out) hb);have n1_:=A' (hbox);have n2_:=A' ((by rw[hg];exact(V' (qK0 HB.out)):w.heap.size≤aB));have n3_:=A' ((by rw[hg];exact(V' (qK0 HB.out)):w.heap.size≤aB));clear HB;have HB:=n0_;have aA:=n1_;have aO:=n2_;have aE:=n3_;clear n0_ n1_ n2_ n3_;clear hb hbox hg)|((with_reducible refine gate_dst (N:=3) rfl ?_);refine box_event ?hg (N:=3) ?hd (cs:=#[.int .i64 aM,.int .i64 aK,.bool aH]) (t:=104) ?hr ?_;(case hd=>rfl);(case hg=>rfl);(case hr=>first|(go_simp;done)|(go_simp;rfl));intro aC hg aS hbox hb;have n0_:=A' (O' (g:=aB) (qB aA.out) hb);have n1_:=A' (W' (qK1 HB.out aE.out) hb);have n2_:=A' (hbox);have n3_:=A' ((by rw[hg];exact(V' (qK1 HB.out aE.out)):w.heap.size≤aC));have n4_:=A' ((by rw[hg];exact(V' (qK1 HB.out aE.out)):w.heap.size≤aC));have n5_:=A' ((by rw[hg];exact Nat.ne_of_lt (bL' (g:=aB) (qB aA.out)):aB≠aC));have n6_:=A' ((by rw[hg];exact Nat.ne_of_gt (bL' (g:=aB) (qB aA.out)):aC≠aB));clear aA;clear HB;have aA:=n0_;have HB:=n1_;have aD:=n2_;have aP:=n3_;have aN:=n4_;have aF:=n5_;have aG:=n6_;clear n0_ n1_ n2_ n3_ n4_ n5_ n6_;clear hb hbox hg;have cS:=aF.out;have cQ:=aG.out;have cI:aS.cell? ⟨aB,0,none⟩=some (.int .i64 aL):=(N' aA.out 0).trans rfl;have bM:aS.cell? ⟨aB,1,none⟩=some (.int .i64 aJ):=(N' aA.out 1).trans rfl;have aX:aS.cell? ⟨aB,2,none⟩=some (.bool aI):=(N' aA.out 2).trans rfl;have cB:=Y' aA.out 0;have cD:=Y' aA.out 1;have bY:=Y' aA.out 2;have cC:aS.cell? ⟨aC,0,none⟩=some (.int .i64 aM):=(N' aD.out 0).trans rfl;have bX:aS.cell? ⟨aC,1,none⟩=some (.int .i64 aK):=(N' aD.out 1).trans rfl;have bJ:aS.cell? ⟨aC,2,none⟩=some (.bool aH):=(N' aD.out 2).trans rfl;have bO:=Y' aD.out 0;have bQ:=Y' aD.out 1;have bG:=Y' aD.out 2));go_ret;exact⟨qE,qK2 HB.out aE.out aN.out⟩
/-! ### laws_eqBarS: function 57 -/
def laws_eqBarS.l0:Nat→List (S104)→List (S104)→Int→Option (Bool)
 |0,_,_,_=>none
 |k+1,x0,x1,x5=>if x5<(x0.length:Int)then(if 0≤x5 then(if x5<(x1.length:Int)then((laws_eqBar.f ((rd_T104 x0 x5).f0) ((rd_T104 x0 x5).f1) ((rd_T104 x0 x5).f2) ((rd_T104 x1 x5).f0) ((rd_T104 x1 x5).f1) ((rd_T104 x1 x5).f2)).bind fun aA=>(if aA=true then(laws_eqBarS.l0 k x0 x1 (wrap64 (x5+1)))else(some false)))else(none))else(none))else(some true)
def laws_eqBarS.f (k:Nat) (l0:List (S104)) (l1:List (S104)):Option (Bool):=if(l0.length:Int)=(l1.length:Int)then(laws_eqBarS.l0 k l0 l1 0)else(some false)
theorem laws_eqBarS.mono_l: ∀k,(∀y0 y1 y2,LeO (laws_eqBarS.l0 k y0 y1 y2) (laws_eqBarS.l0 (k+1) y0 y1 y2))
 |0=>fun _ _ _ r h=>by simp[laws_eqBarS.l0]at h
 |k+1=>by
  have aA:=laws_eqBarS.mono_l k
  ·intro y0 y1 y2
   unfold laws_eqBarS.l0
   repeat' first
   |(with_reducible exact aA _ _ _)
   |(with_reducible exact LeO.refl _)
   |(with_reducible exact LeO.none _)
   |(with_reducible refine LeO.ite ?_ ?_)
   |(with_reducible refine LeO.bind ?_ (fun _=>?_))
   |exact LeO.none _
   |refine LeO.ite ?_ ?_
   |refine LeO.bind ?_ (fun _=>?_)
theorem laws_eqBarS.mono: ∀a0 a1 k,LeO (laws_eqBarS.f k a0 a1) (laws_eqBarS.f (k+1) a0 a1):=by
 intro a0 a1 k
 have aA:=laws_eqBarS.mono_l k
 unfold laws_eqBarS.f
 repeat' first
  |(with_reducible exact aA _ _ _)
  |(with_reducible exact LeO.refl _)
  |(with_reducible exact LeO.none _)
  |(with_reducible refine LeO.ite ?_ ?_)
  |(with_reducible refine LeO.bind ?_ (fun _=>?_))
  |exact LeO.none _
  |refine LeO.ite ?_ ?_
  |refine LeO.bind ?_ (fun _=>?_)
def laws_eqBarS.T6:Bool×List (List Nat×List Nat):=(true,[([],[]),([],[]),([0,1],[0,1]),([2],[2]),([],[]),([],[]),([4,5],[4,5]),([6],[6]),([3,7],[3,7]),([8],[8])])
def laws_eqBarS.B6:List Nat:=[0,0,3,7,0,0,48,112,255,511]
theorem laws_eqBarS.tab6:rtab .any (opsOf Try.f57 6)=laws_eqBarS.T6:=by kernel_rfl
theorem laws_eqBarS.bits6:waitsOk laws_eqBarS.T6.2 laws_eqBarS.B6=true:=by kernel_rfl
set_option maxHeartbeats 8000000 in
set_option maxRecDepth 100000 in
theorem laws_eqBarS.calls (k:Nat) (A0:Option Addr) (c0:Nat) (l0:List (S104)) (A1:Option Addr) (c1:Nat) (l1:List (S104)) (r:Bool) (w:World) (bC:Kd.C k104 w A0 l0.length l0) (bD:l0.length≤c0) (aX:Kd.C k104 w A1 l1.length l1) (aW:l1.length≤c1) (h:laws_eqBarS.f k l0 l1=some r):
 Calls Try.prog 57 #[.slice A0 l0.length c0,.slice A1 l1.length c1] w fun e w'=>e= .returned (.bool r)∧Below w.heap.size w w':=by
 have aY:=Try.underlying104;have bE:=A' bC;have bI:=A' bD;clear bC bD;have aZ:=A' aX;have bH:=A' aW;clear aX aW;have HB:=A' (Below.refl w.heap.size w);have H:(if(l0.length:Int)=(l1.length:Int)then(laws_eqBarS.l0 k l0 l1 0)else(some false))=some r:=h;clear h
 by_cases c3:(l0.length:Int)=(l1.length:Int)
 ·rw[if_pos c3]at H;have c3b0:((l0.length:Int) == (l1.length:Int))=true:=beq_iff_eq.mpr c3;have c3b1:((l0.length:Int) != (l1.length:Int))=false:=bne_eq_false_iff_eq.mpr c3;have c3b2:(l0.length == l1.length)=true:=by first|simpa using c3|(simp at c3 ⊢;omega)
  clear c3;have H':=A' H;clear H;go_enter Try.func57,Try.ntmps57;go_wp2
  go_loopg [5] k (fun kq v5 w'=>∃(aA:Int),v5= .int .i64 aA∧Aside0 (laws_eqBarS.l0 kq l0 l1 aA=some r)∧Aside0 (kq≤k)∧Aside0 (Below w.heap.size w w'))
  case atStart=>exact⟨(0),qS,H',⟨Nat.le_refl _⟩,⟨qK0 HB.out⟩⟩
  case round=>
   clear H';try clear c1
   try clear p2
   try clear c3
   try clear c3b0
   try clear c3b1
   try clear c3b2
   obtain⟨aA,rfl,HA,bA,HB⟩:=hrel
   cases gk with
   |zero=>exact absurd HA.out (by simp[laws_eqBarS.l0])
   |succ k1=>
    have H:=HA.out;clear HA;simp only[laws_eqBarS.l0]at H
    by_cases c4:aA<(l0.length:Int)
    ·rw[if_pos c4]at H;have c4b0:decide (aA<(l0.length:Int))=true:=dT' c4;clear c4
     by_cases c5:0≤aA
     ·rw[if_pos c5]at H;have c5b0:decide (0≤aA)=true:=dT' c5;clear c5
      by_cases c6:aA<(l1.length:Int)
      ·rw[if_pos c6]at H;have c6b0:decide (aA<(l1.length:Int))=true:=dT' c6;clear c6;replace H:=Option.bind_eq_some_iff.mp H;obtain⟨aV,bB,H⟩:=H;replace H:(if aV=true then(laws_eqBarS.l0 k1 l0 l1 (wrap64 (aA+1)))else(some false))=some r:=H;have A7:=A' bB;clear bB
       by_cases c8:aV=true
       ·subst c8;have H1:(laws_eqBarS.l0 k1 l0 l1 (wrap64 (aA+1)))=some r:=by rw[if_pos rfl]at H;exact H
        clear H;have H:=H1;clear H1;have H':=A' H;clear H;try go_wp2
        replace HB:=A' (J' HB.out);have aR:0≤(aA:Int):=oD' qA;have aQ:aA<(l0.length:Int):=oD' qA;obtain⟨aI,aT,aC,aG,aE⟩:=at_T104 bE.out aA aR aQ;have aL:=aE;have aK:=aG;have aM:=aC
        cases aT
        try replace aC:=qC HB.out aC
        try replace aG:=qC HB.out aG
        try replace aE:=qC HB.out aE
        replace aR:=eq_true aR;replace aQ:=eq_true aQ;have aS:0≤(aA:Int):=oD' qA;have aP:aA<(l1.length:Int):=oD' qA;obtain⟨aH,aU,aF,aB,aD⟩:=at_T104 aZ.out aA aS aP;have aO:=aD;have aN:=aB;have aJ:=aF
        cases aU
        try replace aF:=qC HB.out aF
        try replace aB:=qC HB.out aB
        try replace aD:=qC HB.out aD
        replace aS:=eq_true aS;replace aP:=eq_true aP;refine start_ (n:=10) (S:=fun w'=>w'.cell? (aI.add ((aA).toNat*3))=some (.int .i64 ((rd_T104 l0 aA).f0))∧w'.cell? ⟨(aI.add ((aA).toNat*3)).block,(aI.add ((aA).toNat*3)).off+1,none⟩=some (.int .i64 ((rd_T104 l0 aA).f1))∧w'.cell? ⟨(aI.add ((aA).toNat*3)).block,(aI.add ((aA).toNat*3)).off+2,none⟩=some (.bool ((rd_T104 l0 aA).f2))∧w'.cell? (aH.add ((aA).toNat*3))=some (.int .i64 ((rd_T104 l1 aA).f0))∧w'.cell? ⟨(aH.add ((aA).toNat*3)).block,(aH.add ((aA).toNat*3)).off+1,none⟩=some (.int .i64 ((rd_T104 l1 aA).f1))∧w'.cell? ⟨(aH.add ((aA).toNat*3)).block,(aH.add ((aA).toNat*3)).off+2,none⟩=some (.bool ((rd_T104 l1 aA).f2))) (ds:=[]) #[n',n',n',n',n',n',n',n',n',n'] (by kernel_rfl) rfl rfl ⟨(qC HB.out aM:),(qC HB.out aK:),(qC HB.out aL:),(qC HB.out aJ:),(qC HB.out aN:),(qC HB.out aO:)⟩ (fun hHeld=>?_);refine with_tabW laws_eqBarS.tab6 laws_eqBarS.bits6 (fun HT_ HW_=>?_)
        generalize wr.drew=w9 at HB aC aG aE aF aB aD hHeld ⊢
        refine pure_ (i:=0) (N:=some 17) (v:=?_) (a':=?_) #[y',n',n',n',n',n',n',n',n',n'] rfl rfl (any_of HT_.out (by kernel_rfl)) (fun _ _ _ h=>h) (Or.inl ⟨by rfl,?_⟩) ?_ ?_;rotate_left
        ·exact qI
        rotate_left
        ·exact qP
        refine pure_ (i:=1) (N:=some 18) (v:=?_) (a':=?_) #[y',y',n',n',n',n',n',n',n',n'] rfl rfl (any_of HT_.out (by kernel_rfl)) (fun _ _ _ h=>h) (Or.inl ⟨by rfl,?_⟩) ?_ ?_;rotate_left
        ·exact qI
        rotate_left
        ·exact qP
        refine pure_ (i:=2) (N:=some 19) (v:=?_) (a':=?_) #[y',y',y',n',n',n',n',n',n',n'] rfl rfl (any_of HT_.out (by kernel_rfl)) (fun _ _ _ h=>h) (Or.inl ⟨by rfl,?_⟩) ?_ ?_;rotate_left
        ·exact qI
        rotate_left
        ·exact qP
        refine pure_ (i:=4) (N:=some 21) (v:=?_) (a':=?_) #[y',y',y',n',y',n',n',n',n',n'] rfl rfl (any_of HT_.out (by kernel_rfl)) (fun _ _ _ h=>h) (Or.inl ⟨by rfl,?_⟩) ?_ ?_;rotate_left
        ·exact qI
        rotate_left
        ·exact qP
        refine pure_ (i:=5) (N:=some 22) (v:=?_) (a':=?_) #[y',y',y',n',y',y',n',n',n',n'] rfl rfl (any_of HT_.out (by kernel_rfl)) (fun _ _ _ h=>h) (Or.inl ⟨by rfl,?_⟩) ?_ ?_;rotate_left
        ·exact qI
        rotate_left
        ·exact qP
        refine pure_ (i:=6) (N:=some 23) (v:=?_) (a':=?_) #[y',y',y',n',y',y',y',n',n',n'] rfl rfl (any_of HT_.out (by kernel_rfl)) (fun _ _ _ h=>h) (Or.inl ⟨by rfl,?_⟩) ?_ ?_;rotate_left
        ·exact qI
        rotate_left
        ·exact qP
        refine take_ (i:=3) (N:=some 20) (v:=?_) (a':=?_) #[y',y',y',y',y',y',y',n',n',n'] rfl rfl (take_ofW HT_.out HW_.out (by kernel_rfl)) (fun _ _ _ h=>h) (Or.inl ⟨by rfl,?_⟩) hHeld ?_ ?_;rotate_left
        ·rintro w' ⟨s0,s1,s2,s3,s4,s5⟩;go_simp;with_reducible rfl
        rotate_left
        ·exact qP
        refine take_ (i:=7) (N:=some 24) (v:=?_) (a':=?_) #[y',y',y',y',y',y',y',y',n',n'] rfl rfl (take_ofW HT_.out HW_.out (by kernel_rfl)) (fun _ _ _ h=>h) (Or.inl ⟨by rfl,?_⟩) hHeld ?_ ?_;rotate_left
        ·rintro w' ⟨s0,s1,s2,s3,s4,s5⟩;go_simp;with_reducible rfl
        rotate_left
        ·exact qP
        refine one_ (i:=8) (N:=some 25) #[y',y',y',y',y',y',y',y',y',n'] rfl rfl (one_of HT_.out (by kernel_rfl)) (by decide) (fun K hK=>?_);refine goes_ Try.func96 (by kernel_rfl) rfl #[.agg #[.int .i64 ((rd_T104 l0 aA).f0),.int .i64 ((rd_T104 l0 aA).f1),.bool ((rd_T104 l0 aA).f2)],.agg #[.int .i64 ((rd_T104 l1 aA).f0),.int .i64 ((rd_T104 l1 aA).f1),.bool ((rd_T104 l1 aA).f2)]] (by rfl) rfl rfl (by(try simp only[List.map_toArray,List.map_cons,List.map_nil]);first|done|rfl|(simp only[List.length_drop,List.length_take];rfl)) ?_
        with_reducible refine(laws_eqBar.calls ((rd_T104 l0 aA).f0) ((rd_T104 l0 aA).f1) ((rd_T104 l0 aA).f2) ((rd_T104 l1 aA).f0) ((rd_T104 l1 aA).f1) ((rd_T104 l1 aA).f2) true _ A7.out).mono ?_
        rintro e bG ⟨rfl,hb⟩;refine⟨_,rfl,?_⟩;replace HB:=A' (W' (qK0 HB.out) hb);(try clear hb);(try clear hb2);(try clear hk);(try clear hi);refine hK.out _ _ ⟨(qC HB.out aM:),(qC HB.out aK:),(qC HB.out aL:),(qC HB.out aJ:),(qC HB.out aN:),(qC HB.out aO:)⟩ (fun hHeld=>?_);clear hK K;refine norm_ (a':=?_) ?_ ?_;rotate_left
        ·show Act.put _ (some 25) _=_
         exact qP
        refine pure_ (i:=9) (N:=some 26) (v:=?_) (a':=?_) #[y',y',y',y',y',y',y',y',y',y'] rfl rfl (any_of HT_.out (by kernel_rfl)) (fun _ _ _ h=>h) (Or.inl ⟨by rfl,?_⟩) ?_ ?_;rotate_left
        ·exact qI
        rotate_left
        ·exact qP
        refine done_ (done_of HT_.out (by kernel_rfl)) ?_;try go_wp2
        go_roundg k1
        case measure=>have:=bA.out;omega
        case rel=>exact⟨(wrap64 (aA+1)),qS,H',⟨by have:=bA.out;omega⟩,⟨qK0 HB.out⟩⟩
       ·replace c8:=Bool.eq_false_iff.mpr c8;subst c8;have H1:(some false)=some r:=by rw[if_neg (show¬(false=true) by decide)]at H;exact H
        clear H;have H:=H1;clear H1;obtain rfl:=Option.some.inj H;try go_wp2
        replace HB:=A' (J' HB.out);have aR:0≤(aA:Int):=oD' qA;have aQ:aA<(l0.length:Int):=oD' qA;obtain⟨aI,aT,aC,aG,aE⟩:=at_T104 bE.out aA aR aQ;have aL:=aE;have aK:=aG;have aM:=aC
        cases aT
        try replace aC:=qC HB.out aC
        try replace aG:=qC HB.out aG
        try replace aE:=qC HB.out aE
        replace aR:=eq_true aR;replace aQ:=eq_true aQ;have aS:0≤(aA:Int):=oD' qA;have aP:aA<(l1.length:Int):=oD' qA;obtain⟨aH,aU,aF,aB,aD⟩:=at_T104 aZ.out aA aS aP;have aO:=aD;have aN:=aB;have aJ:=aF
        cases aU
        try replace aF:=qC HB.out aF
        try replace aB:=qC HB.out aB
        try replace aD:=qC HB.out aD
        replace aS:=eq_true aS;replace aP:=eq_true aP;refine start_ (n:=10) (S:=fun w'=>w'.cell? (aI.add ((aA).toNat*3))=some (.int .i64 ((rd_T104 l0 aA).f0))∧w'.cell? ⟨(aI.add ((aA).toNat*3)).block,(aI.add ((aA).toNat*3)).off+1,none⟩=some (.int .i64 ((rd_T104 l0 aA).f1))∧w'.cell? ⟨(aI.add ((aA).toNat*3)).block,(aI.add ((aA).toNat*3)).off+2,none⟩=some (.bool ((rd_T104 l0 aA).f2))∧w'.cell? (aH.add ((aA).toNat*3))=some (.int .i64 ((rd_T104 l1 aA).f0))∧w'.cell? ⟨(aH.add ((aA).toNat*3)).block,(aH.add ((aA).toNat*3)).off+1,none⟩=some (.int .i64 ((rd_T104 l1 aA).f1))∧w'.cell? ⟨(aH.add ((aA).toNat*3)).block,(aH.add ((aA).toNat*3)).off+2,none⟩=some (.bool ((rd_T104 l1 aA).f2))) (ds:=[]) #[n',n',n',n',n',n',n',n',n',n'] (by kernel_rfl) rfl rfl ⟨(qC HB.out aM:),(qC HB.out aK:),(qC HB.out aL:),(qC HB.out aJ:),(qC HB.out aN:),(qC HB.out aO:)⟩ (fun hHeld=>?_);refine with_tabW laws_eqBarS.tab6 laws_eqBarS.bits6 (fun HT_ HW_=>?_)
        generalize wr.drew=w11 at HB aC aG aE aF aB aD hHeld ⊢
        refine pure_ (i:=0) (N:=some 17) (v:=?_) (a':=?_) #[y',n',n',n',n',n',n',n',n',n'] rfl rfl (any_of HT_.out (by kernel_rfl)) (fun _ _ _ h=>h) (Or.inl ⟨by rfl,?_⟩) ?_ ?_;rotate_left
        ·exact qI
        rotate_left
        ·exact qP
        refine pure_ (i:=1) (N:=some 18) (v:=?_) (a':=?_) #[y',y',n',n',n',n',n',n',n',n'] rfl rfl (any_of HT_.out (by kernel_rfl)) (fun _ _ _ h=>h) (Or.inl ⟨by rfl,?_⟩) ?_ ?_;rotate_left
        ·exact qI
        rotate_left
        ·exact qP
        refine pure_ (i:=2) (N:=some 19) (v:=?_) (a':=?_) #[y',y',y',n',n',n',n',n',n',n'] rfl rfl (any_of HT_.out (by kernel_rfl)) (fun _ _ _ h=>h) (Or.inl ⟨by rfl,?_⟩) ?_ ?_;rotate_left
        ·exact qI
        rotate_left
        ·exact qP
        refine pure_ (i:=4) (N:=some 21) (v:=?_) (a':=?_) #[y',y',y',n',y',n',n',n',n',n'] rfl rfl (any_of HT_.out (by kernel_rfl)) (fun _ _ _ h=>h) (Or.inl ⟨by rfl,?_⟩) ?_ ?_;rotate_left
        ·exact qI
        rotate_left
        ·exact qP
        refine pure_ (i:=5) (N:=some 22) (v:=?_) (a':=?_) #[y',y',y',n',y',y',n',n',n',n'] rfl rfl (any_of HT_.out (by kernel_rfl)) (fun _ _ _ h=>h) (Or.inl ⟨by rfl,?_⟩) ?_ ?_;rotate_left
        ·exact qI
        rotate_left
        ·exact qP
        refine pure_ (i:=6) (N:=some 23) (v:=?_) (a':=?_) #[y',y',y',n',y',y',y',n',n',n'] rfl rfl (any_of HT_.out (by kernel_rfl)) (fun _ _ _ h=>h) (Or.inl ⟨by rfl,?_⟩) ?_ ?_;rotate_left
        ·exact qI
        rotate_left
        ·exact qP
        refine take_ (i:=3) (N:=some 20) (v:=?_) (a':=?_) #[y',y',y',y',y',y',y',n',n',n'] rfl rfl (take_ofW HT_.out HW_.out (by kernel_rfl)) (fun _ _ _ h=>h) (Or.inl ⟨by rfl,?_⟩) hHeld ?_ ?_;rotate_left
        ·rintro w' ⟨s0,s1,s2,s3,s4,s5⟩;go_simp;with_reducible rfl
        rotate_left
        ·exact qP
        refine take_ (i:=7) (N:=some 24) (v:=?_) (a':=?_) #[y',y',y',y',y',y',y',y',n',n'] rfl rfl (take_ofW HT_.out HW_.out (by kernel_rfl)) (fun _ _ _ h=>h) (Or.inl ⟨by rfl,?_⟩) hHeld ?_ ?_;rotate_left
        ·rintro w' ⟨s0,s1,s2,s3,s4,s5⟩;go_simp;with_reducible rfl
        rotate_left
        ·exact qP
        refine one_ (i:=8) (N:=some 25) #[y',y',y',y',y',y',y',y',y',n'] rfl rfl (one_of HT_.out (by kernel_rfl)) (by decide) (fun K hK=>?_);refine goes_ Try.func96 (by kernel_rfl) rfl #[.agg #[.int .i64 ((rd_T104 l0 aA).f0),.int .i64 ((rd_T104 l0 aA).f1),.bool ((rd_T104 l0 aA).f2)],.agg #[.int .i64 ((rd_T104 l1 aA).f0),.int .i64 ((rd_T104 l1 aA).f1),.bool ((rd_T104 l1 aA).f2)]] (by rfl) rfl rfl (by(try simp only[List.map_toArray,List.map_cons,List.map_nil]);first|done|rfl|(simp only[List.length_drop,List.length_take];rfl)) ?_
        with_reducible refine(laws_eqBar.calls ((rd_T104 l0 aA).f0) ((rd_T104 l0 aA).f1) ((rd_T104 l0 aA).f2) ((rd_T104 l1 aA).f0) ((rd_T104 l1 aA).f1) ((rd_T104 l1 aA).f2) false _ A7.out).mono ?_
        rintro e bF ⟨rfl,hb⟩;refine⟨_,rfl,?_⟩;replace HB:=A' (W' (qK0 HB.out) hb);(try clear hb);(try clear hb2);(try clear hk);(try clear hi);refine hK.out _ _ ⟨(qC HB.out aM:),(qC HB.out aK:),(qC HB.out aL:),(qC HB.out aJ:),(qC HB.out aN:),(qC HB.out aO:)⟩ (fun hHeld=>?_);clear hK K;refine norm_ (a':=?_) ?_ ?_;rotate_left
        ·show Act.put _ (some 25) _=_
         exact qP
        refine pure_ (i:=9) (N:=some 26) (v:=?_) (a':=?_) #[y',y',y',y',y',y',y',y',y',y'] rfl rfl (any_of HT_.out (by kernel_rfl)) (fun _ _ _ h=>h) (Or.inl ⟨by rfl,?_⟩) ?_ ?_;rotate_left
        ·exact qI
        rotate_left
        ·exact qP
        refine done_ (done_of HT_.out (by kernel_rfl)) ?_;try go_wp2
        go_ret;exact⟨qE,qK0 HB.out⟩
      ·rw[if_neg c6]at H;exact absurd H (by simp)
     ·rw[if_neg c5]at H;exact absurd H (by simp)
    ·rw[if_neg c4]at H;have c4b0:decide (aA<(l0.length:Int))=false:=dF' c4;clear c4;obtain rfl:=Option.some.inj H;go_wp2;go_ret;exact⟨qE,qK0 HB.out⟩
 ·rw[if_neg c3]at H;have c3b0:((l0.length:Int) == (l1.length:Int))=false:=beq_eq_false_iff_ne.mpr c3;have c3b1:((l0.length:Int) != (l1.length:Int))=true:=bne_iff_ne.mpr c3;have c3b2:(l0.length == l1.length)=false:=by first|simpa using c3|(simp at c3 ⊢;omega)
  obtain rfl:=Option.some.inj H;go_enter Try.func57,Try.ntmps57;go_wp2;go_ret;exact⟨qE,qK0 HB.out⟩
/-! ### laws_eqFrame: function 12 -/
def laws_eqFrame.f (k:Nat) (aC:List (S90)) (aD:List (S104)) (aE:List (S90)) (aB:List (S104)):Option (Bool):=(laws_eqKnotS.f k aC aE).bind fun aA=>(if aA=true then((laws_eqBarS.f k aD aB).bind fun aF=>(if aF=true then(some true)else(some false)))else(some false))
theorem laws_eqFrame.mono: ∀a0 a1 a2 a3 k,LeO (laws_eqFrame.f k a0 a1 a2 a3) (laws_eqFrame.f (k+1) a0 a1 a2 a3):=by
 intro a0 a1 a2 a3 k
 unfold laws_eqFrame.f
 repeat' first
  |(with_reducible exact laws_eqBarS.mono _ _ _)
  |(with_reducible exact laws_eqKnotS.mono _ _ _)
  |(with_reducible exact LeO.refl _)
  |(with_reducible exact LeO.none _)
  |(with_reducible refine LeO.ite ?_ ?_)
  |(with_reducible refine LeO.bind ?_ (fun _=>?_))
  |exact LeO.none _
  |refine LeO.ite ?_ ?_
  |refine LeO.bind ?_ (fun _=>?_)
set_option maxHeartbeats 8000000 in
set_option maxRecDepth 100000 in
theorem laws_eqFrame.calls (k:Nat) (aR:Option Addr) (aS:Nat) (aK:List (S90)) (aU:Option Addr) (aX:Nat) (aI:List (S104)) (aT:Option Addr) (aQ:Nat) (aG:List (S90)) (aV:Option Addr) (aW:Nat) (aJ:List (S104)) (r:Bool) (w:World) (bJ:Kd.C k90 w aR aK.length aK) (bR:aK.length≤aS) (bH:Kd.C k104 w aU aI.length aI) (bF:aI.length≤aX) (bQ:Kd.C k90 w aT aG.length aG) (bL:aG.length≤aQ) (bI:Kd.C k104 w aV aJ.length aJ) (bM:aJ.length≤aW) (h:laws_eqFrame.f k aK aI aG aJ=some r):
 Calls Try.prog 12 #[.agg #[.slice aR aK.length aS,.slice aU aI.length aX],.agg #[.slice aT aG.length aQ,.slice aV aJ.length aW]] w fun e w'=>e= .returned (.bool r)∧Below w.heap.size w w':=by
 have dQ:=Try.underlying33;have bB:=A' bJ;have aZ:=A' bR;clear bJ bR;have bO:=A' bH;have bP:=A' bF;clear bH bF;have bA:=A' bQ;have bC:=A' bL;clear bQ bL;have bK:=A' bI;have bG:=A' bM;clear bI bM;have HB:=A' (Below.refl w.heap.size w);have H:((laws_eqKnotS.f k aK aG).bind fun bD=>(if bD=true then((laws_eqBarS.f k aI aJ).bind fun aY=>(if aY=true then(some true)else(some false)))else(some false)))=some r:=h;clear h;replace H:=Option.bind_eq_some_iff.mp H;obtain⟨bD,dP,H⟩:=H;replace H:(if bD=true then((laws_eqBarS.f k aI aJ).bind fun aY=>(if aY=true then(some true)else(some false)))else(some false))=some r:=H;have A3:=A' dP;clear dP
 by_cases c4:bD=true
 ·subst c4;have H1:((laws_eqBarS.f k aI aJ).bind fun aY=>(if aY=true then(some true)else(some false)))=some r:=by rw[if_pos rfl]at H;exact H
  clear H;have H:=H1;clear H1;replace H:=Option.bind_eq_some_iff.mp H;obtain⟨aY,dL,H⟩:=H;replace H:(if aY=true then(some true)else(some false))=some r:=H;have A5:=A' dL;clear dL
  by_cases c6:aY=true
  ·subst c6;have H1:(some true)=some r:=by rw[if_pos rfl]at H;exact H
   clear H;have H:=H1;clear H1;obtain rfl:=Option.some.inj H;go_enter Try.func12,Try.ntmps12;go_wp2_with (first|((with_reducible refine gate_dst (N:=2) rfl ?_);refine box_event ?hg (N:=2) ?hd (cs:=#[.slice aR aK.length aS,.slice aU aI.length aX]) (t:=33) ?hr ?_;(case hd=>rfl);(case hg=>rfl);(case hr=>first|(go_simp;done)|(go_simp;rfl));intro aB hg w7 hbox hb;have n0_:=A' (W' (qK0 HB.out) hb);have n1_:=A' (hbox);have n2_:=A' ((by rw[hg];exact(V' (qK0 HB.out)):w.heap.size≤aB));have n3_:=A' ((by rw[hg];exact(V' (qK0 HB.out)):w.heap.size≤aB));clear HB;have HB:=n0_;have aA:=n1_;have bE:=n2_;have aE:=n3_;clear n0_ n1_ n2_ n3_;clear hb hbox hg)|((with_reducible refine gate_dst (N:=3) rfl ?_);refine box_event ?hg (N:=3) ?hd (cs:=#[.slice aT aG.length aQ,.slice aV aJ.length aW]) (t:=33) ?hr ?_;(case hd=>rfl);(case hg=>rfl);(case hr=>first|(go_simp;done)|(go_simp;rfl));intro aD hg w8 hbox hb;have n0_:=A' (O' (g:=aB) (qB aA.out) hb);have n1_:=A' (W' (qK1 HB.out aE.out) hb);have n2_:=A' (hbox);have n3_:=A' ((by rw[hg];exact(V' (qK1 HB.out aE.out)):w.heap.size≤aD));have n4_:=A' ((by rw[hg];exact(V' (qK1 HB.out aE.out)):w.heap.size≤aD));have n5_:=A' ((by rw[hg];exact Nat.ne_of_lt (bL' (g:=aB) (qB aA.out)):aB≠aD));have n6_:=A' ((by rw[hg];exact Nat.ne_of_gt (bL' (g:=aB) (qB aA.out)):aD≠aB));clear aA;clear HB;have aA:=n0_;have HB:=n1_;have aC:=n2_;have bN:=n3_;have aL:=n4_;have aH:=n5_;have aF:=n6_;clear n0_ n1_ n2_ n3_ n4_ n5_ n6_;clear hb hbox hg;have dS:=aH.out;have dR:=aF.out;have bW:w8.cell? ⟨aB,0,none⟩=some (.slice aR aK.length aS):=(N' aA.out 0).trans rfl;have dC:w8.cell? ⟨aB,1,none⟩=some (.slice aU aI.length aX):=(N' aA.out 1).trans rfl;have cT:=Y' aA.out 0;have dJ:=Y' aA.out 1;have cB:w8.cell? ⟨aD,0,none⟩=some (.slice aT aG.length aQ):=(N' aC.out 0).trans rfl;have dG:w8.cell? ⟨aD,1,none⟩=some (.slice aV aJ.length aW):=(N' aC.out 1).trans rfl;have cJ:=Y' aC.out 0;have dA:=Y' aC.out 1)|((with_reducible refine gate_callee (f:=56) rfl ?_);refine goesL_ (some 9) rfl rfl Try.func56 (by kernel_rfl) rfl #[.slice aR aK.length aS,.slice aT aG.length aQ] rfl (by(try simp only[List.map_toArray,List.map_cons,List.map_nil]);first|done|rfl|(simp only[List.length_drop,List.length_take];rfl)) ?_;(with_reducible refine(laws_eqKnotS.calls k _ _ aK _ _ aG true _ ?aO ?aN ?aM ?aP A3.out).mono ?_);(case aO=>exact qT (X' bB.out HB.out));(case aN=>exact aZ.out);(case aM=>exact qT (X' bA.out HB.out));(case aP=>exact bC.out);rintro e cO ⟨rfl,hb⟩;refine⟨_,rfl,?_⟩;replace aA:=A' (O' (g:=aB) (qB aA.out) hb);replace aC:=A' (O' (g:=aD) (qB aC.out) hb);replace HB:=A' (W' (qK2 HB.out aE.out aL.out) hb);(try clear hb);(try clear hb2);(try clear hk);(try clear hi);have cY:cO.cell? ⟨aB,0,none⟩=some (.slice aR aK.length aS):=(N' aA.out 0).trans rfl;have cI:cO.cell? ⟨aB,1,none⟩=some (.slice aU aI.length aX):=(N' aA.out 1).trans rfl;have cV:=Y' aA.out 0;have bV:=Y' aA.out 1;have bT:cO.cell? ⟨aD,0,none⟩=some (.slice aT aG.length aQ):=(N' aC.out 0).trans rfl;have cK:cO.cell? ⟨aD,1,none⟩=some (.slice aV aJ.length aW):=(N' aC.out 1).trans rfl;have dE:=Y' aC.out 0;have cW:=Y' aC.out 1)|((with_reducible refine gate_callee (f:=57) rfl ?_);refine goesL_ (some 15) rfl rfl Try.func57 (by kernel_rfl) rfl #[.slice aU aI.length aX,.slice aV aJ.length aW] rfl (by(try simp only[List.map_toArray,List.map_cons,List.map_nil]);first|done|rfl|(simp only[List.length_drop,List.length_take];rfl)) ?_;(with_reducible refine(laws_eqBarS.calls k _ _ aI _ _ aJ true _ ?aO ?aN ?aM ?aP A5.out).mono ?_);(case aO=>exact qT (X' bO.out HB.out));(case aN=>exact bP.out);(case aM=>exact qT (X' bK.out HB.out));(case aP=>exact bG.out);rintro e dU ⟨rfl,hb⟩;refine⟨_,rfl,?_⟩;replace aA:=A' (O' (g:=aB) (qB aA.out) hb);replace aC:=A' (O' (g:=aD) (qB aC.out) hb);replace HB:=A' (W' (qK2 HB.out aE.out aL.out) hb);(try clear hb);(try clear hb2);(try clear hk);(try clear hi)));go_ret;exact⟨qE,qK2 HB.out aE.out aL.out⟩
  ·replace c6:=Bool.eq_false_iff.mpr c6;subst c6;have H1:(some false)=some r:=by rw[if_neg (show¬(false=true) by decide)]at H;exact H
   clear H;have H:=H1;clear H1;obtain rfl:=Option.some.inj H;go_enter Try.func12,Try.ntmps12;go_wp2_with (first|((with_reducible refine gate_dst (N:=2) rfl ?_);refine box_event ?hg (N:=2) ?hd (cs:=#[.slice aR aK.length aS,.slice aU aI.length aX]) (t:=33) ?hr ?_;(case hd=>rfl);(case hg=>rfl);(case hr=>first|(go_simp;done)|(go_simp;rfl));intro aB hg dT hbox hb;have n0_:=A' (W' (qK0 HB.out) hb);have n1_:=A' (hbox);have n2_:=A' ((by rw[hg];exact(V' (qK0 HB.out)):w.heap.size≤aB));have n3_:=A' ((by rw[hg];exact(V' (qK0 HB.out)):w.heap.size≤aB));clear HB;have HB:=n0_;have aA:=n1_;have bE:=n2_;have aE:=n3_;clear n0_ n1_ n2_ n3_;clear hb hbox hg)|((with_reducible refine gate_dst (N:=3) rfl ?_);refine box_event ?hg (N:=3) ?hd (cs:=#[.slice aT aG.length aQ,.slice aV aJ.length aW]) (t:=33) ?hr ?_;(case hd=>rfl);(case hg=>rfl);(case hr=>first|(go_simp;done)|(go_simp;rfl));intro aD hg cG hbox hb;have n0_:=A' (O' (g:=aB) (qB aA.out) hb);have n1_:=A' (W' (qK1 HB.out aE.out) hb);have n2_:=A' (hbox);have n3_:=A' ((by rw[hg];exact(V' (qK1 HB.out aE.out)):w.heap.size≤aD));have n4_:=A' ((by rw[hg];exact(V' (qK1 HB.out aE.out)):w.heap.size≤aD));have n5_:=A' ((by rw[hg];exact Nat.ne_of_lt (bL' (g:=aB) (qB aA.out)):aB≠aD));have n6_:=A' ((by rw[hg];exact Nat.ne_of_gt (bL' (g:=aB) (qB aA.out)):aD≠aB));clear aA;clear HB;have aA:=n0_;have HB:=n1_;have aC:=n2_;have bN:=n3_;have aL:=n4_;have aH:=n5_;have aF:=n6_;clear n0_ n1_ n2_ n3_ n4_ n5_ n6_;clear hb hbox hg;have dN:=aH.out;have dM:=aF.out;have cD:cG.cell? ⟨aB,0,none⟩=some (.slice aR aK.length aS):=(N' aA.out 0).trans rfl;have cH:cG.cell? ⟨aB,1,none⟩=some (.slice aU aI.length aX):=(N' aA.out 1).trans rfl;have cU:=Y' aA.out 0;have bZ:=Y' aA.out 1;have cP:cG.cell? ⟨aD,0,none⟩=some (.slice aT aG.length aQ):=(N' aC.out 0).trans rfl;have bU:cG.cell? ⟨aD,1,none⟩=some (.slice aV aJ.length aW):=(N' aC.out 1).trans rfl;have cA:=Y' aC.out 0;have cF:=Y' aC.out 1)|((with_reducible refine gate_callee (f:=56) rfl ?_);refine goesL_ (some 9) rfl rfl Try.func56 (by kernel_rfl) rfl #[.slice aR aK.length aS,.slice aT aG.length aQ] rfl (by(try simp only[List.map_toArray,List.map_cons,List.map_nil]);first|done|rfl|(simp only[List.length_drop,List.length_take];rfl)) ?_;(with_reducible refine(laws_eqKnotS.calls k _ _ aK _ _ aG true _ ?aO ?aN ?aM ?aP A3.out).mono ?_);(case aO=>exact qT (X' bB.out HB.out));(case aN=>exact aZ.out);(case aM=>exact qT (X' bA.out HB.out));(case aP=>exact bC.out);rintro e cQ ⟨rfl,hb⟩;refine⟨_,rfl,?_⟩;replace aA:=A' (O' (g:=aB) (qB aA.out) hb);replace aC:=A' (O' (g:=aD) (qB aC.out) hb);replace HB:=A' (W' (qK2 HB.out aE.out aL.out) hb);(try clear hb);(try clear hb2);(try clear hk);(try clear hi);have bX:cQ.cell? ⟨aB,0,none⟩=some (.slice aR aK.length aS):=(N' aA.out 0).trans rfl;have cC:cQ.cell? ⟨aB,1,none⟩=some (.slice aU aI.length aX):=(N' aA.out 1).trans rfl;have cS:=Y' aA.out 0;have bY:=Y' aA.out 1;have dD:cQ.cell? ⟨aD,0,none⟩=some (.slice aT aG.length aQ):=(N' aC.out 0).trans rfl;have dB:cQ.cell? ⟨aD,1,none⟩=some (.slice aV aJ.length aW):=(N' aC.out 1).trans rfl;have dI:=Y' aC.out 0;have cX:=Y' aC.out 1)|((with_reducible refine gate_callee (f:=57) rfl ?_);refine goesL_ (some 15) rfl rfl Try.func57 (by kernel_rfl) rfl #[.slice aU aI.length aX,.slice aV aJ.length aW] rfl (by(try simp only[List.map_toArray,List.map_cons,List.map_nil]);first|done|rfl|(simp only[List.length_drop,List.length_take];rfl)) ?_;(with_reducible refine(laws_eqBarS.calls k _ _ aI _ _ aJ false _ ?aO ?aN ?aM ?aP A5.out).mono ?_);(case aO=>exact qT (X' bO.out HB.out));(case aN=>exact bP.out);(case aM=>exact qT (X' bK.out HB.out));(case aP=>exact bG.out);rintro e dW ⟨rfl,hb⟩;refine⟨_,rfl,?_⟩;replace aA:=A' (O' (g:=aB) (qB aA.out) hb);replace aC:=A' (O' (g:=aD) (qB aC.out) hb);replace HB:=A' (W' (qK2 HB.out aE.out aL.out) hb);(try clear hb);(try clear hb2);(try clear hk);(try clear hi)));go_ret;exact⟨qE,qK2 HB.out aE.out aL.out⟩
 ·replace c4:=Bool.eq_false_iff.mpr c4;subst c4;have H1:(some false)=some r:=by rw[if_neg (show¬(false=true) by decide)]at H;exact H
  clear H;have H:=H1;clear H1;obtain rfl:=Option.some.inj H;go_enter Try.func12,Try.ntmps12;go_wp2_with (first|((with_reducible refine gate_dst (N:=2) rfl ?_);refine box_event ?hg (N:=2) ?hd (cs:=#[.slice aR aK.length aS,.slice aU aI.length aX]) (t:=33) ?hr ?_;(case hd=>rfl);(case hg=>rfl);(case hr=>first|(go_simp;done)|(go_simp;rfl));intro aB hg dX hbox hb;have n0_:=A' (W' (qK0 HB.out) hb);have n1_:=A' (hbox);have n2_:=A' ((by rw[hg];exact(V' (qK0 HB.out)):w.heap.size≤aB));have n3_:=A' ((by rw[hg];exact(V' (qK0 HB.out)):w.heap.size≤aB));clear HB;have HB:=n0_;have aA:=n1_;have bE:=n2_;have aE:=n3_;clear n0_ n1_ n2_ n3_;clear hb hbox hg)|((with_reducible refine gate_dst (N:=3) rfl ?_);refine box_event ?hg (N:=3) ?hd (cs:=#[.slice aT aG.length aQ,.slice aV aJ.length aW]) (t:=33) ?hr ?_;(case hd=>rfl);(case hg=>rfl);(case hr=>first|(go_simp;done)|(go_simp;rfl));intro aD hg cR hbox hb;have n0_:=A' (O' (g:=aB) (qB aA.out) hb);have n1_:=A' (W' (qK1 HB.out aE.out) hb);have n2_:=A' (hbox);have n3_:=A' ((by rw[hg];exact(V' (qK1 HB.out aE.out)):w.heap.size≤aD));have n4_:=A' ((by rw[hg];exact(V' (qK1 HB.out aE.out)):w.heap.size≤aD));have n5_:=A' ((by rw[hg];exact Nat.ne_of_lt (bL' (g:=aB) (qB aA.out)):aB≠aD));have n6_:=A' ((by rw[hg];exact Nat.ne_of_gt (bL' (g:=aB) (qB aA.out)):aD≠aB));clear aA;clear HB;have aA:=n0_;have HB:=n1_;have aC:=n2_;have bN:=n3_;have aL:=n4_;have aH:=n5_;have aF:=n6_;clear n0_ n1_ n2_ n3_ n4_ n5_ n6_;clear hb hbox hg;have dO:=aH.out;have dK:=aF.out;have cZ:cR.cell? ⟨aB,0,none⟩=some (.slice aR aK.length aS):=(N' aA.out 0).trans rfl;have dH:cR.cell? ⟨aB,1,none⟩=some (.slice aU aI.length aX):=(N' aA.out 1).trans rfl;have cN:=Y' aA.out 0;have cE:=Y' aA.out 1;have cL:cR.cell? ⟨aD,0,none⟩=some (.slice aT aG.length aQ):=(N' aC.out 0).trans rfl;have dF:cR.cell? ⟨aD,1,none⟩=some (.slice aV aJ.length aW):=(N' aC.out 1).trans rfl;have bS:=Y' aC.out 0;have cM:=Y' aC.out 1)|((with_reducible refine gate_callee (f:=56) rfl ?_);refine goesL_ (some 9) rfl rfl Try.func56 (by kernel_rfl) rfl #[.slice aR aK.length aS,.slice aT aG.length aQ] rfl (by(try simp only[List.map_toArray,List.map_cons,List.map_nil]);first|done|rfl|(simp only[List.length_drop,List.length_take];rfl)) ?_;(with_reducible refine(laws_eqKnotS.calls k _ _ aK _ _ aG false _ ?aO ?aN ?aM ?aP A3.out).mono ?_);(case aO=>exact qT (X' bB.out HB.out));(case aN=>exact aZ.out);(case aM=>exact qT (X' bA.out HB.out));(case aP=>exact bC.out);rintro e dV ⟨rfl,hb⟩;refine⟨_,rfl,?_⟩;replace aA:=A' (O' (g:=aB) (qB aA.out) hb);replace aC:=A' (O' (g:=aD) (qB aC.out) hb);replace HB:=A' (W' (qK2 HB.out aE.out aL.out) hb);(try clear hb);(try clear hb2);(try clear hk);(try clear hi)));go_ret;exact⟨qE,qK2 HB.out aE.out aL.out⟩
/-! ### laws_eqInt64S: function 13 -/
def laws_eqInt64S.l0:Nat→List Int→List Int→Int→Option (Bool)
 |0,_,_,_=>none
 |k+1,x0,x1,x5=>if x5<(x0.length:Int)then(if 0≤x5 then(if x5<(x1.length:Int)then(if(rd x0 x5)=(rd x1 x5)then(laws_eqInt64S.l0 k x0 x1 (wrap64 (x5+1)))else(some false))else(none))else(none))else(some true)
def laws_eqInt64S.f (k:Nat) (l0:List Int) (l1:List Int):Option (Bool):=if(l0.length:Int)=(l1.length:Int)then(laws_eqInt64S.l0 k l0 l1 0)else(some false)
theorem laws_eqInt64S.mono_l: ∀k,(∀y0 y1 y2,LeO (laws_eqInt64S.l0 k y0 y1 y2) (laws_eqInt64S.l0 (k+1) y0 y1 y2))
 |0=>fun _ _ _ r h=>by simp[laws_eqInt64S.l0]at h
 |k+1=>by
  have aA:=laws_eqInt64S.mono_l k
  ·intro y0 y1 y2
   unfold laws_eqInt64S.l0
   repeat' first
   |(with_reducible exact aA _ _ _)
   |(with_reducible exact LeO.refl _)
   |(with_reducible exact LeO.none _)
   |(with_reducible refine LeO.ite ?_ ?_)
   |(with_reducible refine LeO.bind ?_ (fun _=>?_))
   |exact LeO.none _
   |refine LeO.ite ?_ ?_
   |refine LeO.bind ?_ (fun _=>?_)
theorem laws_eqInt64S.mono: ∀a0 a1 k,LeO (laws_eqInt64S.f k a0 a1) (laws_eqInt64S.f (k+1) a0 a1):=by
 intro a0 a1 k
 have aA:=laws_eqInt64S.mono_l k
 unfold laws_eqInt64S.f
 repeat' first
  |(with_reducible exact aA _ _ _)
  |(with_reducible exact LeO.refl _)
  |(with_reducible exact LeO.none _)
  |(with_reducible refine LeO.ite ?_ ?_)
  |(with_reducible refine LeO.bind ?_ (fun _=>?_))
  |exact LeO.none _
  |refine LeO.ite ?_ ?_
  |refine LeO.bind ?_ (fun _=>?_)
set_option maxHeartbeats 8000000 in
set_option maxRecDepth 100000 in
theorem laws_eqInt64S.calls (k:Nat) (A0:Option Addr) (c0:Nat) (l0:List Int) (A1:Option Addr) (c1:Nat) (l1:List Int) (r:Bool) (w:World) (aN:Kd.C (Kd.int .i64) w A0 l0.length l0) (aO:l0.length≤c0) (aM:Kd.C (Kd.int .i64) w A1 l1.length l1) (aL:l1.length≤c1) (h:laws_eqInt64S.f k l0 l1=some r):
 Calls Try.prog 13 #[.slice A0 l0.length c0,.slice A1 l1.length c1] w fun e w'=>e= .returned (.bool r)∧Drawn0 w w':=by
 have aR:=A' aN;have aS:=A' aO;clear aN aO;have aP:=A' aM;have aT:=A' aL;clear aM aL;have H:(if(l0.length:Int)=(l1.length:Int)then(laws_eqInt64S.l0 k l0 l1 0)else(some false))=some r:=h;clear h
 by_cases c3:(l0.length:Int)=(l1.length:Int)
 ·rw[if_pos c3]at H;have c3b0:((l0.length:Int) == (l1.length:Int))=true:=beq_iff_eq.mpr c3;have c3b1:((l0.length:Int) != (l1.length:Int))=false:=bne_eq_false_iff_eq.mpr c3;have c3b2:(l0.length == l1.length)=true:=by first|simpa using c3|(simp at c3 ⊢;omega)
  clear c3;have H':=A' H;clear H;go_enter Try.func13,Try.ntmps13;go_wp2
  repeat(go_quiet (fail);try go_wp2)
  go_loopg [5] k (fun kq v5 w'=>∃(aA:Int),v5= .int .i64 aA∧Aside0 (laws_eqInt64S.l0 kq l0 l1 aA=some r)∧Aside0 (kq≤k)∧Drawn0 w w')
  case atStart=>exact⟨(0),qS,H',⟨Nat.le_refl _⟩,by repeat(first|exact Drawn0.refl _|apply Drawn0.step)⟩
  case round=>
   clear H';try clear c1
   try clear p2
   try clear c3
   try clear c3b0
   try clear c3b1
   try clear c3b2
   obtain⟨aA,rfl,HA,aQ,⟨m1,rfl⟩⟩:=hrel
   cases gk with
   |zero=>exact absurd HA.out (by simp[laws_eqInt64S.l0])
   |succ k1=>
    have H:=HA.out;clear HA;simp only[laws_eqInt64S.l0]at H
    by_cases c4:aA<(l0.length:Int)
    ·rw[if_pos c4]at H;have c4b0:decide (aA<(l0.length:Int))=true:=dT' c4;clear c4
     by_cases c5:0≤aA
     ·rw[if_pos c5]at H;have c5b0:decide (0≤aA)=true:=dT' c5;clear c5
      by_cases c6:aA<(l1.length:Int)
      ·rw[if_pos c6]at H;have c6b0:decide (aA<(l1.length:Int))=true:=dT' c6;clear c6
       by_cases c7:(rd l0 aA)=(rd l1 aA)
       ·rw[if_pos c7]at H;have c7b0:((rd l0 aA) == (rd l1 aA))=true:=beq_iff_eq.mpr c7;have c7b1:((rd l0 aA) != (rd l1 aA))=false:=bne_eq_false_iff_eq.mpr c7;clear c7;have H':=A' H;clear H;have aE:0≤(aA:Int):=oD' qA;have aD:aA<(l0.length:Int):=oD' qA;obtain⟨aJ,aH,aF⟩:=Kd.at_int aR.out aA aE aD
        cases aH
        replace aE:=eq_true aE;replace aD:=eq_true aD;have aC:0≤(aA:Int):=oD' qA;have aB:aA<(l1.length:Int):=oD' qA;obtain⟨aK,aI,aG⟩:=Kd.at_int aP.out aA aC aB
        cases aI
        replace aC:=eq_true aC;replace aB:=eq_true aB;go_wp2
        repeat(go_quiet (fail);try go_wp2)
        go_roundg k1
        case measure=>have:=aQ.out;omega
        case rel=>exact⟨(wrap64 (aA+1)),qS,H',⟨by have:=aQ.out;omega⟩,by repeat(first|exact Drawn0.refl _|apply Drawn0.step)⟩
       ·rw[if_neg c7]at H;have c7b0:((rd l0 aA) == (rd l1 aA))=false:=beq_eq_false_iff_ne.mpr c7;have c7b1:((rd l0 aA) != (rd l1 aA))=true:=bne_iff_ne.mpr c7;obtain rfl:=Option.some.inj H;have aE:0≤(aA:Int):=oD' qA;have aD:aA<(l0.length:Int):=oD' qA;obtain⟨aJ,aH,aF⟩:=Kd.at_int aR.out aA aE aD
        cases aH
        replace aE:=eq_true aE;replace aD:=eq_true aD;have aC:0≤(aA:Int):=oD' qA;have aB:aA<(l1.length:Int):=oD' qA;obtain⟨aK,aI,aG⟩:=Kd.at_int aP.out aA aC aB
        cases aI
        replace aC:=eq_true aC;replace aB:=eq_true aB;go_wp2
        repeat(go_quiet (fail);try go_wp2)
        go_ret;exact⟨by first|rfl|(simp;done)|(simp[*];done),by repeat(first|exact Drawn0.refl _|apply Drawn0.step)⟩
      ·rw[if_neg c6]at H;exact absurd H (by simp)
     ·rw[if_neg c5]at H;exact absurd H (by simp)
    ·rw[if_neg c4]at H;have c4b0:decide (aA<(l0.length:Int))=false:=dF' c4;clear c4;obtain rfl:=Option.some.inj H;go_wp2
     repeat(go_quiet (fail);try go_wp2)
     go_ret;exact⟨by first|rfl|(simp;done)|(simp[*];done),by repeat(first|exact Drawn0.refl _|apply Drawn0.step)⟩
 ·rw[if_neg c3]at H;have c3b0:((l0.length:Int) == (l1.length:Int))=false:=beq_eq_false_iff_ne.mpr c3;have c3b1:((l0.length:Int) != (l1.length:Int))=true:=bne_iff_ne.mpr c3;have c3b2:(l0.length == l1.length)=false:=by first|simpa using c3|(simp at c3 ⊢;omega)
  obtain rfl:=Option.some.inj H;go_enter Try.func13,Try.ntmps13;go_wp2
  repeat(go_quiet (fail);try go_wp2)
  go_ret;exact⟨by first|rfl|(simp;done)|(simp[*];done),by repeat(first|exact Drawn0.refl _|apply Drawn0.step)⟩
end Go.Proofs.Ytebbdadpgapobaa.HEl
