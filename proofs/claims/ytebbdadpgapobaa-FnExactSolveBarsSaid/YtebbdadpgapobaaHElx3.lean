-- Written by a program for this claim (the functions that the statement reaches, and that the program's code comes to them).
import Derived.Test.YtebbdadpgapobaaHElx0
namespace Go.Proofs.Ytebbdadpgapobaa.HEl
open Go.RowKit Go.Proofs.YtebbdadpgapobaaW.PrintWords Go.Proofs.YtebbdadpgapobaaW.PrintLast Go.Proofs.YtebbdadpgapobaaW.PrintMore
attribute [local go_sem] max2_int min2_int max_two min_two max_three min_three max_four min_four
set_option linter.unusedVariables false
set_option linter.unusedSimpArgs false
/-! ### laws_toKnot: function 91 -/
def laws_toKnot.f (aC:Int) (aA:Int) (aB:Bool):Option (Int×Int×Bool):=some (aC,aA,aB)
set_option maxHeartbeats 8000000 in
set_option maxRecDepth 100000 in
theorem laws_toKnot.calls (aI:Int) (aJ:Int) (aO:Bool) (r1:Int) (r2:Int) (r3:Bool) (w:World) (h:laws_toKnot.f aI aJ aO=some (r1,r2,r3)):
 Calls Try.prog 91 #[.agg #[.int .i64 aI,.int .i64 aJ,.bool aO]] w fun e w'=>e= .returned (.agg #[.int .i64 r1,.int .i64 r2,.bool r3])∧Below w.heap.size w w':=by
 have bK:=Try.underlying126;have bQ:=Try.underlying90;have HB:=A' (Below.refl w.heap.size w);have H:(some (aI,aJ,aO))=some (r1,r2,r3):=h;clear h;simp only[Option.some.injEq,Prod.mk.injEq]at H;obtain⟨rfl,rfl,rfl⟩:=H;go_enter Try.func91,Try.ntmps91;go_wp2_with (first|((with_reducible refine gate_dst (N:=1) rfl ?_);refine box_event ?hg (N:=1) ?hd (cs:=#[.int .i64 aI,.int .i64 aJ,.bool aO]) (t:=126) ?hr ?_;(case hd=>rfl);(case hg=>rfl);(case hr=>first|(go_simp;done)|(go_simp;rfl));intro aB hg w2 hbox hb;have n0_:=A' (W' (qK0 HB.out) hb);have n1_:=A' (hbox);have n2_:=A' ((by rw[hg];exact(V' (qK0 HB.out)):w.heap.size≤aB));have n3_:=A' ((by rw[hg];exact(V' (qK0 HB.out)):w.heap.size≤aB));clear HB;have HB:=n0_;have aA:=n1_;have bN:=n2_;have aG:=n3_;clear n0_ n1_ n2_ n3_;clear hb hbox hg)|((with_reducible refine gate_dst (N:=2) rfl ?_);refine box_event ?hg (N:=2) ?hd (cs:=#[.int .i64 0,.int .i64 0,.bool false]) (t:=90) ?hr ?_;(case hd=>rfl);(case hg=>rfl);(case hr=>first|(go_simp;done)|(go_simp;rfl));intro aC hg w3 hbox hb;have n0_:=A' (O' (g:=aB) (qB aA.out) hb);have n1_:=A' (W' (qK1 HB.out aG.out) hb);have n2_:=A' (hbox);have n3_:=A' ((by rw[hg];exact(V' (qK1 HB.out aG.out)):w.heap.size≤aC));have n4_:=A' ((by rw[hg];exact(V' (qK1 HB.out aG.out)):w.heap.size≤aC));have n5_:=A' ((by rw[hg];exact Nat.ne_of_lt (bL' (g:=aB) (qB aA.out)):aB≠aC));have n6_:=A' ((by rw[hg];exact Nat.ne_of_gt (bL' (g:=aB) (qB aA.out)):aC≠aB));clear aA;clear HB;have aA:=n0_;have HB:=n1_;have aD:=n2_;have bM:=n3_;have aK:=n4_;have aL:=n5_;have aP:=n6_;clear n0_ n1_ n2_ n3_ n4_ n5_ n6_;clear hb hbox hg)|((with_reducible refine gate_dst (N:=3) rfl ?_);refine box_event ?hg (N:=3) ?hd (cs:=#[.int .i64 0,.int .i64 0,.bool false]) (t:=90) ?hr ?_;(case hd=>rfl);(case hg=>rfl);(case hr=>first|(go_simp;done)|(go_simp;rfl));intro aF hg w4 hbox hb;have n0_:=A' (O' (g:=aB) (qB aA.out) hb);have n1_:=A' (O' (g:=aC) (qB aD.out) hb);have n2_:=A' (W' (qK2 HB.out aG.out aK.out) hb);have n3_:=A' (hbox);have n4_:=A' ((by rw[hg];exact(V' (qK2 HB.out aG.out aK.out)):w.heap.size≤aF));have n5_:=A' ((by rw[hg];exact(V' (qK2 HB.out aG.out aK.out)):w.heap.size≤aF));have n6_:=A' ((by rw[hg];exact Nat.ne_of_lt (bL' (g:=aB) (qB aA.out)):aB≠aF));have n7_:=A' ((by rw[hg];exact Nat.ne_of_gt (bL' (g:=aB) (qB aA.out)):aF≠aB));have n8_:=A' ((by rw[hg];exact Nat.ne_of_lt (bL' (g:=aC) (qB aD.out)):aC≠aF));have n9_:=A' ((by rw[hg];exact Nat.ne_of_gt (bL' (g:=aC) (qB aD.out)):aF≠aC));clear aA;clear aD;clear HB;have aA:=n0_;have aD:=n1_;have HB:=n2_;have aH:=n3_;have bL:=n4_;have aR:=n5_;have aQ:=n6_;have aM:=n7_;have aE:=n8_;have aN:=n9_;clear n0_ n1_ n2_ n3_ n4_ n5_ n6_ n7_ n8_ n9_;clear hb hbox hg;have bS:=aL.out;have bU:=aP.out;have bT:=aQ.out;have bR:=aM.out;have bI:w4.cell? ⟨aB,0,none⟩=some (.int .i64 aI):=(N' aA.out 0).trans rfl;have bG:w4.cell? ⟨aB,1,none⟩=some (.int .i64 aJ):=(N' aA.out 1).trans rfl;have bH:w4.cell? ⟨aB,2,none⟩=some (.bool aO):=(N' aA.out 2).trans rfl;have bF:=Y' aA.out 0;have aY:=Y' aA.out 1;have bB:=Y' aA.out 2;have bP:=aN.out;have bO:=aE.out;have bE:w4.cell? ⟨aF,0,none⟩=some (.int .i64 0):=(N' aH.out 0).trans rfl;have bA:w4.cell? ⟨aF,1,none⟩=some (.int .i64 0):=(N' aH.out 1).trans rfl;have bC:w4.cell? ⟨aF,2,none⟩=some (.bool false):=(N' aH.out 2).trans rfl;have bJ:=Y' aH.out 0;have aZ:=Y' aH.out 1;have bD:=Y' aH.out 2;have aT:w4.cell? ⟨aC,0,none⟩=some (.int .i64 0):=(N' aD.out 0).trans rfl;have aW:w4.cell? ⟨aC,1,none⟩=some (.int .i64 0):=(N' aD.out 1).trans rfl;have aS:w4.cell? ⟨aC,2,none⟩=some (.bool false):=(N' aD.out 2).trans rfl;have aV:=Y' aD.out 0;have aX:=Y' aD.out 1;have aU:=Y' aD.out 2));refine bodyPost_ret (results_cell_row rfl _ _ aC 90 #[.int .i64 aI,.int .i64 aJ,.bool aO] (0,0) _ rfl (by(with_reducible repeat(first|refine G' ?_ _|refine I' ?_|refine hA' ?_ _));refine blk_put (cs:=#[.int .i64 aI,.int .i64 aJ,.bool false]) ?_ 2 _ rfl;(with_reducible repeat(first|refine G' ?_ _|refine I' ?_|refine hA' ?_ _));refine blk_put (cs:=#[.int .i64 aI,.int .i64 0,.bool false]) ?_ 1 _ rfl;(with_reducible repeat(first|refine G' ?_ _|refine I' ?_|refine hA' ?_ _));refine blk_put (cs:=#[.int .i64 0,.int .i64 0,.bool false]) ?_ 0 _ rfl;(with_reducible repeat(first|refine G' ?_ _|refine I' ?_|refine hA' ?_ _));refine bF' ?_ aE.out _;(with_reducible repeat(first|refine G' ?_ _|refine I' ?_|refine hA' ?_ _));refine bF' ?_ aE.out _;(with_reducible repeat(first|refine G' ?_ _|refine I' ?_|refine hA' ?_ _));refine bF' ?_ aE.out _;(with_reducible repeat(first|refine G' ?_ _|refine I' ?_|refine hA' ?_ _));exact aD.out) Try.underlying90 rfl (by kernel_rfl)) rfl ?_;exact⟨qE,qK3 HB.out aG.out aK.out aR.out⟩
/-! ### laws_toKnotS: function 51 -/
def laws_toKnotS.l0:Nat→List (S126)→List (S90)→Int→Option ((List (S90)))
 |0,_,_,_=>none
 |k+1,x0,x3,x4=>if x4<(x0.length:Int)then(if 0≤x4 then((laws_toKnot.f ((rd_T126 x0 x4).f0) ((rd_T126 x0 x4).f1) ((rd_T126 x0 x4).f2)).bind fun aA=>(if x4<(x3.length:Int)then(laws_toKnotS.l0 k x0 (x3.set (x4:Int).toNat (⟨aA.1,aA.2.1,aA.2.2⟩:S90)) (wrap64 (x4+1)))else(none)))else(none))else(some x3)
def laws_toKnotS.f (k:Nat) (l0:List (S126)):Option ((List (S90))):=if 0≤(l0.length:Int)then(if((l0.length:Int):Int).toNat≤11728124029610 then(laws_toKnotS.l0 k l0 (List.replicate ((l0.length:Int):Int).toNat z90) 0)else(none))else(none)
theorem laws_toKnotS.mono_l: ∀k,(∀y0 y1 y2,LeO (laws_toKnotS.l0 k y0 y1 y2) (laws_toKnotS.l0 (k+1) y0 y1 y2))
 |0=>fun _ _ _ r h=>by simp[laws_toKnotS.l0]at h
 |k+1=>by
  have aA:=laws_toKnotS.mono_l k
  ·intro y0 y1 y2
   unfold laws_toKnotS.l0
   repeat' first
   |(with_reducible exact aA _ _ _)
   |(with_reducible exact LeO.refl _)
   |(with_reducible exact LeO.none _)
   |(with_reducible refine LeO.ite ?_ ?_)
   |(with_reducible refine LeO.bind ?_ (fun _=>?_))
   |exact LeO.none _
   |refine LeO.ite ?_ ?_
   |refine LeO.bind ?_ (fun _=>?_)
theorem laws_toKnotS.mono: ∀a0 k,LeO (laws_toKnotS.f k a0) (laws_toKnotS.f (k+1) a0):=by
 intro a0 k
 have aA:=laws_toKnotS.mono_l k
 unfold laws_toKnotS.f
 repeat' first
  |(with_reducible exact aA _ _ _)
  |(with_reducible exact LeO.refl _)
  |(with_reducible exact LeO.none _)
  |(with_reducible refine LeO.ite ?_ ?_)
  |(with_reducible refine LeO.bind ?_ (fun _=>?_))
  |exact LeO.none _
  |refine LeO.ite ?_ ?_
  |refine LeO.bind ?_ (fun _=>?_)
set_option maxHeartbeats 8000000 in
set_option maxRecDepth 100000 in
theorem laws_toKnotS.calls (k:Nat) (A0:Option Addr) (c0:Nat) (l0:List (S126)) (r:List (S90)) (w:World) (cG:Kd.C k126 w A0 l0.length l0) (cD:l0.length≤c0) (h:laws_toKnotS.f k l0=some r):
 Calls Try.prog 51 #[.slice A0 l0.length c0] w fun e w'=>∃v0_:Value,e= .returned (v0_)∧Kd.R k90 90 w' w.heap.size (fun _=>True) v0_ r∧Below w.heap.size w w':=by
 have cE:=Try.underlying126;have cH:=Try.underlying90;have cK:=A' cG;have cN:=A' cD;clear cG cD;have HB:=A' (Below.refl w.heap.size w);have H:(if 0≤(l0.length:Int)then(if((l0.length:Int):Int).toNat≤11728124029610 then(laws_toKnotS.l0 k l0 (List.replicate ((l0.length:Int):Int).toNat z90) 0)else(none))else(none))=some r:=h;clear h
 by_cases c2:0≤(l0.length:Int)
 ·rw[if_pos c2]at H;have c2b0:=eq_true c2;have c2b1:decide (0≤(l0.length:Int))=true:=dT' c2;clear c2
  by_cases c3:((l0.length:Int):Int).toNat≤11728124029610
  ·rw[if_pos c3]at H;have c3b0:=eq_true c3;have c3b1:decide (((l0.length:Int):Int).toNat≤11728124029610)=true:=dT' c3;clear c3;obtain⟨bD,aF⟩: ∃y_:List (S90),y_=(List.replicate ((l0.length:Int):Int).toNat z90):=⟨_,rfl⟩
   replace H:(laws_toKnotS.l0 k l0 bD 0)=some r:=by first|(rw[aF];with_reducible exact H)|(have H2_:=(Option.bind_some _ _).symm.trans H;rw[aF];with_reducible exact H2_)|(have H2_:=(Option.bind_some _ _).symm.trans H;with_reducible exact H2_)|with_reducible exact H|(rw[aF];exact H)|exact H
   have aR:=A' aF;clear aF;have H':=A' H;clear H;go_enter Try.func51,Try.ntmps51;go_wp2_with (first|((with_reducible refine gate_dst (N:=7) rfl ?_);refine Kd.R_make k90 _ 90 rfl (N:=7) rfl 30 _ _ rfl (l0.length:Int) rfl rfl Try.underlying30 (.agg #[(.int .i64 0),(.int .i64 0),(.bool false)]) 24 info90 rfl (by decide) (by omega) z90 (ok:=fun _=>True) (okp:=fun _=>True) (k90_mkM _ _ _ z90) (fun _ hk=>hk) trivial (oD' qA) (Nat.le_trans (Nat.mul_le_mul_right _ (oD' qA:(l0.length:Int).toNat≤11728124029610)) (by omega)) (Below.refl _ _) (Nat.le_refl _) ?_;intro bQ w4 bE hb hg_ hnew_;clear hg_ hnew_;(first|rw[← aR.out]at bE|(simp only[Int.reduceToNat]at bE;rw[← aR.out]at bE));have n0_:=A' (Kd.R_lower bE (V' (qK0 HB.out)));have n1_:=A' (W' (qK0 HB.out) hb);clear HB;have bL:=n0_;have HB:=n1_;clear n0_ n1_;clear hb bE))
   go_loopg [4] k (fun kq v4 w'=>∃(aB:List (S90)) (aA:Int),v4= .int .i64 aA∧Aside0 (laws_toKnotS.l0 kq l0 aB aA=some r)∧Aside0 (kq≤k)∧Aside0 (Kd.R k90 90 w' w.heap.size (fun _=>True) bQ aB)∧Aside0 (Below w.heap.size w w'))
   case atStart=>exact⟨(bD),(0),qS,H',⟨Nat.le_refl _⟩,⟨qR bL.out⟩,⟨qK0 HB.out⟩⟩
   case round=>
    clear H';try clear c2
    try clear c2b0
    try clear c2b1
    try clear p2
    try clear c3
    try clear c3b0
    try clear c3b1
    try clear c5
    obtain⟨aB,aA,rfl,HA,cB,HO_3,HB⟩:=hrel
    cases gk with
    |zero=>exact absurd HA.out (by simp[laws_toKnotS.l0])
    |succ k1=>
     have H:=HA.out;clear HA;simp only[laws_toKnotS.l0]at H
     by_cases c6:aA<(l0.length:Int)
     ·rw[if_pos c6]at H;have c6b0:decide (aA<(l0.length:Int))=true:=dT' c6;clear c6
      by_cases c7:0≤aA
      ·rw[if_pos c7]at H;have c7b0:decide (0≤aA)=true:=dT' c7;clear c7;replace H:=Option.bind_eq_some_iff.mp H;obtain⟨⟨aH,aI,aG⟩,cC,H⟩:=H;replace H:(if aA<(aB.length:Int)then(laws_toKnotS.l0 k1 l0 (aB.set (aA:Int).toNat (⟨aH,aI,aG⟩:S90)) (wrap64 (aA+1)))else(none))=some r:=H;have A8:=A' cC;clear cC
       by_cases c9:aA<(aB.length:Int)
       ·rw[if_pos c9]at H;have c9b0:decide (aA<(aB.length:Int))=true:=dT' c9;clear c9;obtain⟨aV,aE⟩: ∃y_:List (S90),y_=(aB.set (aA:Int).toNat (⟨aH,aI,aG⟩:S90)):=⟨_,rfl⟩
        replace H:(laws_toKnotS.l0 k1 l0 aV (wrap64 (aA+1)))=some r:=by first|(rw[aE];with_reducible exact H)|(have H2_:=(Option.bind_some _ _).symm.trans H;rw[aE];with_reducible exact H2_)|(have H2_:=(Option.bind_some _ _).symm.trans H;with_reducible exact H2_)|with_reducible exact H|(rw[aE];exact H)|exact H
        have bI:=A' aE;clear aE;have H':=A' H;clear H;have bB:0≤(aA:Int):=oD' qA;have aX:aA<(l0.length:Int):=oD' qA;obtain⟨cF,bZ,aN,aL,aO⟩:=at_T126 cK.out aA bB aX
        cases bZ
        try replace aN:=qC HB.out aN
        try replace aL:=qC HB.out aL
        try replace aO:=qC HB.out aO
        replace bB:=eq_true bB;replace aX:=eq_true aX;go_wp2_with (first|((with_reducible refine gate_callee (f:=91) rfl ?_);refine goesL_ (some 20) rfl rfl Try.func91 (by kernel_rfl) rfl #[.agg #[.int .i64 ((rd_T126 l0 aA).f0),.int .i64 ((rd_T126 l0 aA).f1),.bool ((rd_T126 l0 aA).f2)]] rfl (by(try simp only[List.map_toArray,List.map_cons,List.map_nil]);first|done|rfl|(simp only[List.length_drop,List.length_take];rfl)) ?_;(with_reducible refine(laws_toKnot.calls ((rd_T126 l0 aA).f0) ((rd_T126 l0 aA).f1) ((rd_T126 l0 aA).f2) aH aI aG _ A8.out).mono ?_);rintro e aP ⟨rfl,hb⟩;refine⟨_,rfl,?_⟩;replace HO_3:=A' (L' (qR HO_3.out) hb);replace HB:=A' (W' (qK0 HB.out) hb);(try clear hb);(try clear hb2);(try clear hk);(try clear hi);have bY:0≤(aA:Int):=oD' qA;have bP:(aA:Int)<((aB.length:Int):Int):=oD' qA;obtain⟨aC,bN,bG,bM,bX,cL,bF⟩:=Kd.R_form HO_3.out (by omega);(first|cases bG|(injection bG with ea_ en_ ec_;(first|subst ea_|(injection ea_ with ea_;subst ea_));subst ec_;clear en_));have bA:=A' bM;have cM:=A' bF;clear bM bX bF;obtain⟨cJ,bJ,bH,aM,aJ⟩:=Kd.R_elem HO_3.out z90 (aA:Int) bY bP;obtain rfl:=k90_openM bH;have bS:aP.cell? ⟨aC,(aA:Int).toNat*3,none⟩=some (.int .i64 ((rd_T90 aB aA).f0)):=aM 0 _ rfl;have bU:aP.cell? ⟨aC,(aA:Int).toNat*3+1,none⟩=some (.int .i64 ((rd_T90 aB aA).f1)):=aM 1 _ rfl;have bR:aP.cell? ⟨aC,(aA:Int).toNat*3+2,none⟩=some (.bool ((rd_T90 aB aA).f2)):=aM 2 _ rfl;have bW:aP.frozen? ⟨aC,(aA:Int).toNat*3,none⟩=false:=aJ 0;have cA:aP.frozen? ⟨aC,(aA:Int).toNat*3+1,none⟩=false:=aJ 1;have bV:aP.frozen? ⟨aC,(aA:Int).toNat*3+2,none⟩=false:=aJ 2;clear bJ aM aJ bH;replace bY:=eq_true bY;replace bP:=eq_true bP;have bK:=A' (show Kd.R k90 90 aP w.heap.size (fun _=>True) (.slice (some ⟨aC,0,none⟩) aB.length bN) aB from(qR HO_3.out));obtain⟨cI,aQ,bO,aD,aK⟩:=Kd.R_elem bK.out z90 (aA:Int) (oD' qA) (by have h_:(aA:Int)<((aB.length:Int):Int):=oD' qA;first|exact h_|(have e_:=(Kd.R_reads' HO_3.out).1;omega)|simpa using h_);obtain rfl:=k90_openM bO;have bC:=Kd.R_seg bK.out (aA:Int) (oD' qA) (by have h_:(aA:Int)<((aB.length:Int):Int):=oD' qA;first|exact h_|(have e_:=(Kd.R_reads' HO_3.out).1;omega)|simpa using h_) (seg:=[.int .i64 aH,.int .i64 aI,.bool aG]) (j:=0) aQ aD (show 3≤3 from by decide) (x':=(⟨aH,aI,aG⟩:S90)) (k90_mkM _ _ _ (⟨aH,aI,aG⟩:S90)) (fun _ hk=>hk);have aT:=aD 0 _ rfl;(try simp only[show(k90).sz=3 from rfl,Nat.mul_one,Nat.add_zero]at aT);have aS:=aK 0;(try simp only[show(k90).sz=3 from rfl,Nat.mul_one,Nat.add_zero]at aS);have aU:=aD 1 _ rfl;(try simp only[show(k90).sz=3 from rfl,Nat.mul_one,Nat.add_zero]at aU);have aZ:=aK 1;(try simp only[show(k90).sz=3 from rfl,Nat.mul_one,Nat.add_zero]at aZ);have aY:=aD 2 _ rfl;(try simp only[show(k90).sz=3 from rfl,Nat.mul_one,Nat.add_zero]at aY);have aW:=aK 2;(try simp only[show(k90).sz=3 from rfl,Nat.mul_one,Nat.add_zero]at aW);clear aQ aD aK bO)|((with_reducible refine gate_store (t:=90) (p:=21) rfl ?_);refine store_event (t:=90) (p:=21) (v:=?vo_w13) (w1:=(((aP.setCell ⟨aC,(aA:Int).toNat*3,none⟩ (.int .i64 aH)).setCell ⟨aC,(aA:Int).toNat*3+1,none⟩ (.int .i64 aI)).setCell ⟨aC,(aA:Int).toNat*3+2,none⟩ (.bool aG))) ?hg ?ho ?hn ?hr ?_;(case ho=>rfl);(case hg=>rfl);(case hn=>rfl);(case hr=>first|(go_simp;done)|(go_simp;rfl));intro bT hw;have hg:aP.grownBy bT (some aC):=(by rw[hw];exact bC.2);have hp_:Kd.R k90 90 bT w.heap.size (fun _=>True) (.slice (some ⟨aC,0,none⟩) aB.length bN) aV:=(by rw[hw,bI.out];exact bC.1);clear bC;have n0_:=A' (hp_);have n1_:=A' ((by rw[hw];exact E' (E' (E' (HB.out) bA.out) bA.out) bA.out:Below w.heap.size w bT));clear HO_3;clear HB;have HO_3:=n0_;have HB:=n1_;clear n0_ n1_;clear hg hw hp_))
        go_roundg k1
        case measure=>have:=cB.out;omega
        case rel=>exact⟨(aV),(wrap64 (aA+1)),qS,H',⟨by have:=cB.out;omega⟩,⟨qR HO_3.out⟩,⟨qK0 HB.out⟩⟩
       ·rw[if_neg c9]at H;exact absurd H (by simp)
      ·rw[if_neg c7]at H;exact absurd H (by simp)
     ·rw[if_neg c6]at H;have c6b0:decide (aA<(l0.length:Int))=false:=dF' c6;clear c6;obtain rfl:=Option.some.inj H;go_wp2;go_ret;exact⟨_,qE,qR HO_3.out,qK0 HB.out⟩
  ·rw[if_neg c3]at H;exact absurd H (by simp)
 ·rw[if_neg c2]at H;exact absurd H (by simp)
/-! ### laws_toBar: function 92 -/
def laws_toBar.f (aC:Int) (aA:Int) (aB:Bool):Option (Int×Int×Bool):=some (aC,aA,aB)
set_option maxHeartbeats 8000000 in
set_option maxRecDepth 100000 in
theorem laws_toBar.calls (aI:Int) (aJ:Int) (aN:Bool) (r1:Int) (r2:Int) (r3:Bool) (w:World) (h:laws_toBar.f aI aJ aN=some (r1,r2,r3)):
 Calls Try.prog 92 #[.agg #[.int .i64 aI,.int .i64 aJ,.bool aN]] w fun e w'=>e= .returned (.agg #[.int .i64 r1,.int .i64 r2,.bool r3])∧Below w.heap.size w w':=by
 have bM:=Try.underlying128;have bK:=Try.underlying104;have HB:=A' (Below.refl w.heap.size w);have H:(some (aI,aJ,aN))=some (r1,r2,r3):=h;clear h;simp only[Option.some.injEq,Prod.mk.injEq]at H;obtain⟨rfl,rfl,rfl⟩:=H;go_enter Try.func92,Try.ntmps92;go_wp2_with (first|((with_reducible refine gate_dst (N:=1) rfl ?_);refine box_event ?hg (N:=1) ?hd (cs:=#[.int .i64 aI,.int .i64 aJ,.bool aN]) (t:=128) ?hr ?_;(case hd=>rfl);(case hg=>rfl);(case hr=>first|(go_simp;done)|(go_simp;rfl));intro aB hg w2 hbox hb;have n0_:=A' (W' (qK0 HB.out) hb);have n1_:=A' (hbox);have n2_:=A' ((by rw[hg];exact(V' (qK0 HB.out)):w.heap.size≤aB));have n3_:=A' ((by rw[hg];exact(V' (qK0 HB.out)):w.heap.size≤aB));clear HB;have HB:=n0_;have aA:=n1_;have bO:=n2_;have aG:=n3_;clear n0_ n1_ n2_ n3_;clear hb hbox hg)|((with_reducible refine gate_dst (N:=2) rfl ?_);refine box_event ?hg (N:=2) ?hd (cs:=#[.int .i64 0,.int .i64 0,.bool false]) (t:=104) ?hr ?_;(case hd=>rfl);(case hg=>rfl);(case hr=>first|(go_simp;done)|(go_simp;rfl));intro aC hg w3 hbox hb;have n0_:=A' (O' (g:=aB) (qB aA.out) hb);have n1_:=A' (W' (qK1 HB.out aG.out) hb);have n2_:=A' (hbox);have n3_:=A' ((by rw[hg];exact(V' (qK1 HB.out aG.out)):w.heap.size≤aC));have n4_:=A' ((by rw[hg];exact(V' (qK1 HB.out aG.out)):w.heap.size≤aC));have n5_:=A' ((by rw[hg];exact Nat.ne_of_lt (bL' (g:=aB) (qB aA.out)):aB≠aC));have n6_:=A' ((by rw[hg];exact Nat.ne_of_gt (bL' (g:=aB) (qB aA.out)):aC≠aB));clear aA;clear HB;have aA:=n0_;have HB:=n1_;have aD:=n2_;have bL:=n3_;have aK:=n4_;have aM:=n5_;have aL:=n6_;clear n0_ n1_ n2_ n3_ n4_ n5_ n6_;clear hb hbox hg)|((with_reducible refine gate_dst (N:=3) rfl ?_);refine box_event ?hg (N:=3) ?hd (cs:=#[.int .i64 0,.int .i64 0,.bool false]) (t:=104) ?hr ?_;(case hd=>rfl);(case hg=>rfl);(case hr=>first|(go_simp;done)|(go_simp;rfl));intro aF hg w4 hbox hb;have n0_:=A' (O' (g:=aB) (qB aA.out) hb);have n1_:=A' (O' (g:=aC) (qB aD.out) hb);have n2_:=A' (W' (qK2 HB.out aG.out aK.out) hb);have n3_:=A' (hbox);have n4_:=A' ((by rw[hg];exact(V' (qK2 HB.out aG.out aK.out)):w.heap.size≤aF));have n5_:=A' ((by rw[hg];exact(V' (qK2 HB.out aG.out aK.out)):w.heap.size≤aF));have n6_:=A' ((by rw[hg];exact Nat.ne_of_lt (bL' (g:=aB) (qB aA.out)):aB≠aF));have n7_:=A' ((by rw[hg];exact Nat.ne_of_gt (bL' (g:=aB) (qB aA.out)):aF≠aB));have n8_:=A' ((by rw[hg];exact Nat.ne_of_lt (bL' (g:=aC) (qB aD.out)):aC≠aF));have n9_:=A' ((by rw[hg];exact Nat.ne_of_gt (bL' (g:=aC) (qB aD.out)):aF≠aC));clear aA;clear aD;clear HB;have aA:=n0_;have aD:=n1_;have HB:=n2_;have aH:=n3_;have bN:=n4_;have aR:=n5_;have aQ:=n6_;have aP:=n7_;have aE:=n8_;have aO:=n9_;clear n0_ n1_ n2_ n3_ n4_ n5_ n6_ n7_ n8_ n9_;clear hb hbox hg;have bS:=aM.out;have bU:=aL.out;have bT:=aQ.out;have bR:=aP.out;have bI:w4.cell? ⟨aB,0,none⟩=some (.int .i64 aI):=(N' aA.out 0).trans rfl;have bG:w4.cell? ⟨aB,1,none⟩=some (.int .i64 aJ):=(N' aA.out 1).trans rfl;have bH:w4.cell? ⟨aB,2,none⟩=some (.bool aN):=(N' aA.out 2).trans rfl;have bF:=Y' aA.out 0;have aY:=Y' aA.out 1;have bB:=Y' aA.out 2;have bQ:=aO.out;have bP:=aE.out;have bE:w4.cell? ⟨aF,0,none⟩=some (.int .i64 0):=(N' aH.out 0).trans rfl;have bA:w4.cell? ⟨aF,1,none⟩=some (.int .i64 0):=(N' aH.out 1).trans rfl;have bC:w4.cell? ⟨aF,2,none⟩=some (.bool false):=(N' aH.out 2).trans rfl;have bJ:=Y' aH.out 0;have aZ:=Y' aH.out 1;have bD:=Y' aH.out 2;have aT:w4.cell? ⟨aC,0,none⟩=some (.int .i64 0):=(N' aD.out 0).trans rfl;have aW:w4.cell? ⟨aC,1,none⟩=some (.int .i64 0):=(N' aD.out 1).trans rfl;have aS:w4.cell? ⟨aC,2,none⟩=some (.bool false):=(N' aD.out 2).trans rfl;have aV:=Y' aD.out 0;have aX:=Y' aD.out 1;have aU:=Y' aD.out 2));refine bodyPost_ret (results_cell_row rfl _ _ aC 104 #[.int .i64 aI,.int .i64 aJ,.bool aN] (0,0) _ rfl (by(with_reducible repeat(first|refine G' ?_ _|refine I' ?_|refine hA' ?_ _));refine blk_put (cs:=#[.int .i64 aI,.int .i64 aJ,.bool false]) ?_ 2 _ rfl;(with_reducible repeat(first|refine G' ?_ _|refine I' ?_|refine hA' ?_ _));refine blk_put (cs:=#[.int .i64 aI,.int .i64 0,.bool false]) ?_ 1 _ rfl;(with_reducible repeat(first|refine G' ?_ _|refine I' ?_|refine hA' ?_ _));refine blk_put (cs:=#[.int .i64 0,.int .i64 0,.bool false]) ?_ 0 _ rfl;(with_reducible repeat(first|refine G' ?_ _|refine I' ?_|refine hA' ?_ _));refine bF' ?_ aE.out _;(with_reducible repeat(first|refine G' ?_ _|refine I' ?_|refine hA' ?_ _));refine bF' ?_ aE.out _;(with_reducible repeat(first|refine G' ?_ _|refine I' ?_|refine hA' ?_ _));refine bF' ?_ aE.out _;(with_reducible repeat(first|refine G' ?_ _|refine I' ?_|refine hA' ?_ _));exact aD.out) Try.underlying104 rfl (by kernel_rfl)) rfl ?_;exact⟨qE,qK3 HB.out aG.out aK.out aR.out⟩
/-! ### laws_toBarS: function 52 -/
def laws_toBarS.l0:Nat→List (S128)→List (S104)→Int→Option ((List (S104)))
 |0,_,_,_=>none
 |k+1,x0,x3,x4=>if x4<(x0.length:Int)then(if 0≤x4 then((laws_toBar.f ((rd_T128 x0 x4).f0) ((rd_T128 x0 x4).f1) ((rd_T128 x0 x4).f2)).bind fun aA=>(if x4<(x3.length:Int)then(laws_toBarS.l0 k x0 (x3.set (x4:Int).toNat (⟨aA.1,aA.2.1,aA.2.2⟩:S104)) (wrap64 (x4+1)))else(none)))else(none))else(some x3)
def laws_toBarS.f (k:Nat) (l0:List (S128)):Option ((List (S104))):=if 0≤(l0.length:Int)then(if((l0.length:Int):Int).toNat≤11728124029610 then(laws_toBarS.l0 k l0 (List.replicate ((l0.length:Int):Int).toNat z104) 0)else(none))else(none)
theorem laws_toBarS.mono_l: ∀k,(∀y0 y1 y2,LeO (laws_toBarS.l0 k y0 y1 y2) (laws_toBarS.l0 (k+1) y0 y1 y2))
 |0=>fun _ _ _ r h=>by simp[laws_toBarS.l0]at h
 |k+1=>by
  have aA:=laws_toBarS.mono_l k
  ·intro y0 y1 y2
   unfold laws_toBarS.l0
   repeat' first
   |(with_reducible exact aA _ _ _)
   |(with_reducible exact LeO.refl _)
   |(with_reducible exact LeO.none _)
   |(with_reducible refine LeO.ite ?_ ?_)
   |(with_reducible refine LeO.bind ?_ (fun _=>?_))
   |exact LeO.none _
   |refine LeO.ite ?_ ?_
   |refine LeO.bind ?_ (fun _=>?_)
theorem laws_toBarS.mono: ∀a0 k,LeO (laws_toBarS.f k a0) (laws_toBarS.f (k+1) a0):=by
 intro a0 k
 have aA:=laws_toBarS.mono_l k
 unfold laws_toBarS.f
 repeat' first
  |(with_reducible exact aA _ _ _)
  |(with_reducible exact LeO.refl _)
  |(with_reducible exact LeO.none _)
  |(with_reducible refine LeO.ite ?_ ?_)
  |(with_reducible refine LeO.bind ?_ (fun _=>?_))
  |exact LeO.none _
  |refine LeO.ite ?_ ?_
  |refine LeO.bind ?_ (fun _=>?_)
set_option maxHeartbeats 8000000 in
set_option maxRecDepth 100000 in
theorem laws_toBarS.calls (k:Nat) (A0:Option Addr) (c0:Nat) (l0:List (S128)) (r:List (S104)) (w:World) (cH:Kd.C k128 w A0 l0.length l0) (cF:l0.length≤c0) (h:laws_toBarS.f k l0=some r):
 Calls Try.prog 52 #[.slice A0 l0.length c0] w fun e w'=>∃v0_:Value,e= .returned (v0_)∧Kd.R k104 104 w' w.heap.size (fun _=>True) v0_ r∧Below w.heap.size w w':=by
 have cG:=Try.underlying128;have cB:=Try.underlying104;have cK:=A' cH;have cN:=A' cF;clear cH cF;have HB:=A' (Below.refl w.heap.size w);have H:(if 0≤(l0.length:Int)then(if((l0.length:Int):Int).toNat≤11728124029610 then(laws_toBarS.l0 k l0 (List.replicate ((l0.length:Int):Int).toNat z104) 0)else(none))else(none))=some r:=h;clear h
 by_cases c2:0≤(l0.length:Int)
 ·rw[if_pos c2]at H;have c2b0:=eq_true c2;have c2b1:decide (0≤(l0.length:Int))=true:=dT' c2;clear c2
  by_cases c3:((l0.length:Int):Int).toNat≤11728124029610
  ·rw[if_pos c3]at H;have c3b0:=eq_true c3;have c3b1:decide (((l0.length:Int):Int).toNat≤11728124029610)=true:=dT' c3;clear c3;obtain⟨bN,aD⟩: ∃y_:List (S104),y_=(List.replicate ((l0.length:Int):Int).toNat z104):=⟨_,rfl⟩
   replace H:(laws_toBarS.l0 k l0 bN 0)=some r:=by first|(rw[aD];with_reducible exact H)|(have H2_:=(Option.bind_some _ _).symm.trans H;rw[aD];with_reducible exact H2_)|(have H2_:=(Option.bind_some _ _).symm.trans H;with_reducible exact H2_)|with_reducible exact H|(rw[aD];exact H)|exact H
   have aR:=A' aD;clear aD;have H':=A' H;clear H;go_enter Try.func52,Try.ntmps52;go_wp2_with (first|((with_reducible refine gate_dst (N:=7) rfl ?_);refine Kd.R_make k104 _ 104 rfl (N:=7) rfl 31 _ _ rfl (l0.length:Int) rfl rfl Try.underlying31 (.agg #[(.int .i64 0),(.int .i64 0),(.bool false)]) 24 info104 rfl (by decide) (by omega) z104 (ok:=fun _=>True) (okp:=fun _=>True) (k104_mkM _ _ _ z104) (fun _ hk=>hk) trivial (oD' qA) (Nat.le_trans (Nat.mul_le_mul_right _ (oD' qA:(l0.length:Int).toNat≤11728124029610)) (by omega)) (Below.refl _ _) (Nat.le_refl _) ?_;intro bS w4 bD hb hg_ hnew_;clear hg_ hnew_;(first|rw[← aR.out]at bD|(simp only[Int.reduceToNat]at bD;rw[← aR.out]at bD));have n0_:=A' (Kd.R_lower bD (V' (qK0 HB.out)));have n1_:=A' (W' (qK0 HB.out) hb);clear HB;have bG:=n0_;have HB:=n1_;clear n0_ n1_;clear hb bD))
   go_loopg [4] k (fun kq v4 w'=>∃(aB:List (S104)) (aA:Int),v4= .int .i64 aA∧Aside0 (laws_toBarS.l0 kq l0 aB aA=some r)∧Aside0 (kq≤k)∧Aside0 (Kd.R k104 104 w' w.heap.size (fun _=>True) bS aB)∧Aside0 (Below w.heap.size w w'))
   case atStart=>exact⟨(bN),(0),qS,H',⟨Nat.le_refl _⟩,⟨qR bG.out⟩,⟨qK0 HB.out⟩⟩
   case round=>
    clear H';try clear c2
    try clear c2b0
    try clear c2b1
    try clear p2
    try clear c3
    try clear c3b0
    try clear c3b1
    try clear c5
    obtain⟨aB,aA,rfl,HA,cC,HO_3,HB⟩:=hrel
    cases gk with
    |zero=>exact absurd HA.out (by simp[laws_toBarS.l0])
    |succ k1=>
     have H:=HA.out;clear HA;simp only[laws_toBarS.l0]at H
     by_cases c6:aA<(l0.length:Int)
     ·rw[if_pos c6]at H;have c6b0:decide (aA<(l0.length:Int))=true:=dT' c6;clear c6
      by_cases c7:0≤aA
      ·rw[if_pos c7]at H;have c7b0:decide (0≤aA)=true:=dT' c7;clear c7;replace H:=Option.bind_eq_some_iff.mp H;obtain⟨⟨aH,aG,aI⟩,cD,H⟩:=H;replace H:(if aA<(aB.length:Int)then(laws_toBarS.l0 k1 l0 (aB.set (aA:Int).toNat (⟨aH,aG,aI⟩:S104)) (wrap64 (aA+1)))else(none))=some r:=H;have A8:=A' cD;clear cD
       by_cases c9:aA<(aB.length:Int)
       ·rw[if_pos c9]at H;have c9b0:decide (aA<(aB.length:Int))=true:=dT' c9;clear c9;obtain⟨aW,aE⟩: ∃y_:List (S104),y_=(aB.set (aA:Int).toNat (⟨aH,aG,aI⟩:S104)):=⟨_,rfl⟩
        replace H:(laws_toBarS.l0 k1 l0 aW (wrap64 (aA+1)))=some r:=by first|(rw[aE];with_reducible exact H)|(have H2_:=(Option.bind_some _ _).symm.trans H;rw[aE];with_reducible exact H2_)|(have H2_:=(Option.bind_some _ _).symm.trans H;with_reducible exact H2_)|with_reducible exact H|(rw[aE];exact H)|exact H
        have bI:=A' aE;clear aE;have H':=A' H;clear H;have aX:0≤(aA:Int):=oD' qA;have bB:aA<(l0.length:Int):=oD' qA;obtain⟨cE,bW,aN,aO,aK⟩:=at_T128 cK.out aA aX bB
        cases bW
        try replace aN:=qC HB.out aN
        try replace aO:=qC HB.out aO
        try replace aK:=qC HB.out aK
        replace aX:=eq_true aX;replace bB:=eq_true bB;go_wp2_with (first|((with_reducible refine gate_callee (f:=92) rfl ?_);refine goesL_ (some 20) rfl rfl Try.func92 (by kernel_rfl) rfl #[.agg #[.int .i64 ((rd_T128 l0 aA).f0),.int .i64 ((rd_T128 l0 aA).f1),.bool ((rd_T128 l0 aA).f2)]] rfl (by(try simp only[List.map_toArray,List.map_cons,List.map_nil]);first|done|rfl|(simp only[List.length_drop,List.length_take];rfl)) ?_;(with_reducible refine(laws_toBar.calls ((rd_T128 l0 aA).f0) ((rd_T128 l0 aA).f1) ((rd_T128 l0 aA).f2) aH aG aI _ A8.out).mono ?_);rintro e aP ⟨rfl,hb⟩;refine⟨_,rfl,?_⟩;replace HO_3:=A' (L' (qR HO_3.out) hb);replace HB:=A' (W' (qK0 HB.out) hb);(try clear hb);(try clear hb2);(try clear hk);(try clear hi);have bZ:0≤(aA:Int):=oD' qA;have bP:(aA:Int)<((aB.length:Int):Int):=oD' qA;obtain⟨aC,bM,bF,bL,bY,cL,bE⟩:=Kd.R_form HO_3.out (by omega);(first|cases bF|(injection bF with ea_ en_ ec_;(first|subst ea_|(injection ea_ with ea_;subst ea_));subst ec_;clear en_));have bA:=A' bL;have cM:=A' bE;clear bL bY bE;obtain⟨cJ,bJ,bH,aM,aJ⟩:=Kd.R_elem HO_3.out z104 (aA:Int) bZ bP;obtain rfl:=k104_openM bH;have bR:aP.cell? ⟨aC,(aA:Int).toNat*3,none⟩=some (.int .i64 ((rd_T104 aB aA).f0)):=aM 0 _ rfl;have bU:aP.cell? ⟨aC,(aA:Int).toNat*3+1,none⟩=some (.int .i64 ((rd_T104 aB aA).f1)):=aM 1 _ rfl;have bQ:aP.cell? ⟨aC,(aA:Int).toNat*3+2,none⟩=some (.bool ((rd_T104 aB aA).f2)):=aM 2 _ rfl;have bX:aP.frozen? ⟨aC,(aA:Int).toNat*3,none⟩=false:=aJ 0;have cA:aP.frozen? ⟨aC,(aA:Int).toNat*3+1,none⟩=false:=aJ 1;have bV:aP.frozen? ⟨aC,(aA:Int).toNat*3+2,none⟩=false:=aJ 2;clear bJ aM aJ bH;replace bZ:=eq_true bZ;replace bP:=eq_true bP;have bK:=A' (show Kd.R k104 104 aP w.heap.size (fun _=>True) (.slice (some ⟨aC,0,none⟩) aB.length bM) aB from(qR HO_3.out));obtain⟨cI,aQ,bO,aF,aL⟩:=Kd.R_elem bK.out z104 (aA:Int) (oD' qA) (by have h_:(aA:Int)<((aB.length:Int):Int):=oD' qA;first|exact h_|(have e_:=(Kd.R_reads' HO_3.out).1;omega)|simpa using h_);obtain rfl:=k104_openM bO;have bC:=Kd.R_seg bK.out (aA:Int) (oD' qA) (by have h_:(aA:Int)<((aB.length:Int):Int):=oD' qA;first|exact h_|(have e_:=(Kd.R_reads' HO_3.out).1;omega)|simpa using h_) (seg:=[.int .i64 aH,.int .i64 aG,.bool aI]) (j:=0) aQ aF (show 3≤3 from by decide) (x':=(⟨aH,aG,aI⟩:S104)) (k104_mkM _ _ _ (⟨aH,aG,aI⟩:S104)) (fun _ hk=>hk);have aT:=aF 0 _ rfl;(try simp only[show(k104).sz=3 from rfl,Nat.mul_one,Nat.add_zero]at aT);have aS:=aL 0;(try simp only[show(k104).sz=3 from rfl,Nat.mul_one,Nat.add_zero]at aS);have aU:=aF 1 _ rfl;(try simp only[show(k104).sz=3 from rfl,Nat.mul_one,Nat.add_zero]at aU);have aZ:=aL 1;(try simp only[show(k104).sz=3 from rfl,Nat.mul_one,Nat.add_zero]at aZ);have aY:=aF 2 _ rfl;(try simp only[show(k104).sz=3 from rfl,Nat.mul_one,Nat.add_zero]at aY);have aV:=aL 2;(try simp only[show(k104).sz=3 from rfl,Nat.mul_one,Nat.add_zero]at aV);clear aQ aF aL bO)|((with_reducible refine gate_store (t:=104) (p:=21) rfl ?_);refine store_event (t:=104) (p:=21) (v:=?vo_w13) (w1:=(((aP.setCell ⟨aC,(aA:Int).toNat*3,none⟩ (.int .i64 aH)).setCell ⟨aC,(aA:Int).toNat*3+1,none⟩ (.int .i64 aG)).setCell ⟨aC,(aA:Int).toNat*3+2,none⟩ (.bool aI))) ?hg ?ho ?hn ?hr ?_;(case ho=>rfl);(case hg=>rfl);(case hn=>rfl);(case hr=>first|(go_simp;done)|(go_simp;rfl));intro bT hw;have hg:aP.grownBy bT (some aC):=(by rw[hw];exact bC.2);have hp_:Kd.R k104 104 bT w.heap.size (fun _=>True) (.slice (some ⟨aC,0,none⟩) aB.length bM) aW:=(by rw[hw,bI.out];exact bC.1);clear bC;have n0_:=A' (hp_);have n1_:=A' ((by rw[hw];exact E' (E' (E' (HB.out) bA.out) bA.out) bA.out:Below w.heap.size w bT));clear HO_3;clear HB;have HO_3:=n0_;have HB:=n1_;clear n0_ n1_;clear hg hw hp_))
        go_roundg k1
        case measure=>have:=cC.out;omega
        case rel=>exact⟨(aW),(wrap64 (aA+1)),qS,H',⟨by have:=cC.out;omega⟩,⟨qR HO_3.out⟩,⟨qK0 HB.out⟩⟩
       ·rw[if_neg c9]at H;exact absurd H (by simp)
      ·rw[if_neg c7]at H;exact absurd H (by simp)
     ·rw[if_neg c6]at H;have c6b0:decide (aA<(l0.length:Int))=false:=dF' c6;clear c6;obtain rfl:=Option.some.inj H;go_wp2;go_ret;exact⟨_,qE,qR HO_3.out,qK0 HB.out⟩
  ·rw[if_neg c3]at H;exact absurd H (by simp)
 ·rw[if_neg c2]at H;exact absurd H (by simp)
/-! ### laws_toFrame: function 9 -/
def laws_toFrame.f (k:Nat) (aA:List (S126)) (aC:List (S128)):Option ((List (S90))×(List (S104))):=(laws_toKnotS.f k aA).bind fun aB=>((laws_toBarS.f k aC).bind fun aD=>(some (aB,aD)))
theorem laws_toFrame.mono: ∀a0 a1 k,LeO (laws_toFrame.f k a0 a1) (laws_toFrame.f (k+1) a0 a1):=by
 intro a0 a1 k
 unfold laws_toFrame.f
 repeat' first
  |(with_reducible exact laws_toBarS.mono _ _)
  |(with_reducible exact laws_toKnotS.mono _ _)
  |(with_reducible exact LeO.refl _)
  |(with_reducible exact LeO.none _)
  |(with_reducible refine LeO.ite ?_ ?_)
  |(with_reducible refine LeO.bind ?_ (fun _=>?_))
  |exact LeO.none _
  |refine LeO.ite ?_ ?_
  |refine LeO.bind ?_ (fun _=>?_)
set_option maxHeartbeats 8000000 in
set_option maxRecDepth 100000 in
theorem laws_toFrame.calls (k:Nat) (aQ:Option Addr) (aR:Nat) (aL:List (S126)) (aT:Option Addr) (aV:Nat) (aI:List (S128)) (r1:List (S90)) (r2:List (S104)) (w:World) (bG:Kd.C k126 w aQ aL.length aL) (bI:aL.length≤aR) (bF:Kd.C k128 w aT aI.length aI) (bE:aI.length≤aV) (h:laws_toFrame.f k aL aI=some (r1,r2)):
 Calls Try.prog 9 #[.agg #[.slice aQ aL.length aR,.slice aT aI.length aV]] w fun e w'=>∃v0_ v1_:Value,e= .returned (.agg #[v0_,v1_])∧Kd.R k90 90 w' w.heap.size (fun _=>True) v0_ r1∧Kd.R k104 104 w' w.heap.size (fun _=>True) v1_ r2∧Below w.heap.size w w':=by
 have cY:=Try.underlying25;have cT:=Try.underlying33;have bJ:=A' bG;have bN:=A' bI;clear bG bI;have bK:=A' bF;have bL:=A' bE;clear bF bE;have HB:=A' (Below.refl w.heap.size w);have H:((laws_toKnotS.f k aL).bind fun aK=>((laws_toBarS.f k aI).bind fun aM=>(some (aK,aM))))=some (r1,r2):=h;clear h;replace H:=Option.bind_eq_some_iff.mp H;obtain⟨aK,cS,H⟩:=H;replace H:((laws_toBarS.f k aI).bind fun aM=>(some (aK,aM)))=some (r1,r2):=H;have A2:=A' cS;clear cS;replace H:=Option.bind_eq_some_iff.mp H;obtain⟨aM,cR,H⟩:=H;replace H:(some (aK,aM))=some (r1,r2):=H;have A3:=A' cR;clear cR;simp only[Option.some.injEq,Prod.mk.injEq]at H;obtain⟨rfl,rfl⟩:=H;go_enter Try.func9,Try.ntmps9;go_wp2_with (first|((with_reducible refine gate_dst (N:=1) rfl ?_);refine box_event ?hg (N:=1) ?hd (cs:=#[.slice aQ aL.length aR,.slice aT aI.length aV]) (t:=25) ?hr ?_;(case hd=>rfl);(case hg=>rfl);(case hr=>first|(go_simp;done)|(go_simp;rfl));intro aC hg w4 hbox hb;have n0_:=A' (W' (qK0 HB.out) hb);have n1_:=A' (hbox);have n2_:=A' ((by rw[hg];exact(V' (qK0 HB.out)):w.heap.size≤aC));have n3_:=A' ((by rw[hg];exact(V' (qK0 HB.out)):w.heap.size≤aC));clear HB;have HB:=n0_;have aA:=n1_;have cM:=n2_;have aG:=n3_;clear n0_ n1_ n2_ n3_;clear hb hbox hg)|((with_reducible refine gate_dst (N:=2) rfl ?_);refine box_event ?hg (N:=2) ?hd (cs:=#[.slice none 0 0,.slice none 0 0]) (t:=33) ?hr ?_;(case hd=>rfl);(case hg=>rfl);(case hr=>first|(go_simp;done)|(go_simp;rfl));intro aB hg w5 hbox hb;have n0_:=A' (O' (g:=aC) (qB aA.out) hb);have n1_:=A' (W' (qK1 HB.out aG.out) hb);have n2_:=A' (hbox);have n3_:=A' ((by rw[hg];exact(V' (qK1 HB.out aG.out)):w.heap.size≤aB));have n4_:=A' ((by rw[hg];exact(V' (qK1 HB.out aG.out)):w.heap.size≤aB));have n5_:=A' ((by rw[hg];exact Nat.ne_of_lt (bL' (g:=aC) (qB aA.out)):aC≠aB));have n6_:=A' ((by rw[hg];exact Nat.ne_of_gt (bL' (g:=aC) (qB aA.out)):aB≠aC));clear aA;clear HB;have aA:=n0_;have HB:=n1_;have aD:=n2_;have cO:=n3_;have aH:=n4_;have aW:=n5_;have aZ:=n6_;clear n0_ n1_ n2_ n3_ n4_ n5_ n6_;clear hb hbox hg)|((with_reducible refine gate_dst (N:=3) rfl ?_);refine box_event ?hg (N:=3) ?hd (cs:=#[.slice none 0 0,.slice none 0 0]) (t:=33) ?hr ?_;(case hd=>rfl);(case hg=>rfl);(case hr=>first|(go_simp;done)|(go_simp;rfl));intro aF hg w6 hbox hb;have n0_:=A' (O' (g:=aC) (qB aA.out) hb);have n1_:=A' (O' (g:=aB) (qB aD.out) hb);have n2_:=A' (W' (qK2 HB.out aG.out aH.out) hb);have n3_:=A' (hbox);have n4_:=A' ((by rw[hg];exact(V' (qK2 HB.out aG.out aH.out)):w.heap.size≤aF));have n5_:=A' ((by rw[hg];exact(V' (qK2 HB.out aG.out aH.out)):w.heap.size≤aF));have n6_:=A' ((by rw[hg];exact Nat.ne_of_lt (bL' (g:=aC) (qB aA.out)):aC≠aF));have n7_:=A' ((by rw[hg];exact Nat.ne_of_gt (bL' (g:=aC) (qB aA.out)):aF≠aC));have n8_:=A' ((by rw[hg];exact Nat.ne_of_lt (bL' (g:=aB) (qB aD.out)):aB≠aF));have n9_:=A' ((by rw[hg];exact Nat.ne_of_gt (bL' (g:=aB) (qB aD.out)):aF≠aB));clear aA;clear aD;clear HB;have aA:=n0_;have aD:=n1_;have HB:=n2_;have aE:=n3_;have cP:=n4_;have aN:=n5_;have aO:=n6_;have aY:=n7_;have aJ:=n8_;have aX:=n9_;clear n0_ n1_ n2_ n3_ n4_ n5_ n6_ n7_ n8_ n9_;clear hb hbox hg;have dA:=aW.out;have cW:=aZ.out;have cV:=aO.out;have cU:=aY.out;have cJ:w6.cell? ⟨aC,0,none⟩=some (.slice aQ aL.length aR):=(N' aA.out 0).trans rfl;have cI:w6.cell? ⟨aC,1,none⟩=some (.slice aT aI.length aV):=(N' aA.out 1).trans rfl;have cK:=Y' aA.out 0;have cG:=Y' aA.out 1)|((with_reducible refine gate_callee (f:=51) rfl ?_);refine goesL_ (some 6) rfl rfl Try.func51 (by kernel_rfl) rfl #[.slice aQ aL.length aR] rfl (by(try simp only[List.map_toArray,List.map_cons,List.map_nil]);first|done|rfl|(simp only[List.length_drop,List.length_take];rfl)) ?_;(with_reducible refine(laws_toKnotS.calls k _ _ aL aK _ ?bD ?bB A2.out).mono ?_);(case bD=>exact qT (X' bJ.out HB.out));(case bB=>exact bN.out);rintro e bU ⟨cZ,rfl,bM,hb⟩;refine⟨_,rfl,?_⟩;have n0_:=A' (Kd.R_lower bM (V' (qK3 HB.out aG.out aH.out aN.out)));have n1_:=A' (O' (g:=aC) (qB aA.out) hb);have n2_:=A' (O' (g:=aB) (qB aD.out) hb);have n3_:=A' (O' (g:=aF) (qB aE.out) hb);have n4_:=A' (W' (qK3 HB.out aG.out aH.out aN.out) hb);clear aA;clear aD;clear aE;clear HB;have aP:=n0_;have aA:=n1_;have aD:=n2_;have aE:=n3_;have HB:=n4_;clear n0_ n1_ n2_ n3_ n4_;(try clear hb);(try clear hb2);(try clear hk);(try clear hi);(try clear bM);obtain⟨aU,aS,cH⟩:=Kd.R_slice aP.out;subst cH;have cQ:=aX.out;have cN:=aJ.out;have bY:bU.cell? ⟨aF,0,none⟩=some (.slice none 0 0):=(N' aE.out 0).trans rfl;have cB:bU.cell? ⟨aF,1,none⟩=some (.slice none 0 0):=(N' aE.out 1).trans rfl;have bV:=Y' aE.out 0;have bT:=Y' aE.out 1;have bR:bU.cell? ⟨aC,0,none⟩=some (.slice aQ aL.length aR):=(N' aA.out 0).trans rfl;have cF:bU.cell? ⟨aC,1,none⟩=some (.slice aT aI.length aV):=(N' aA.out 1).trans rfl;have cD:=Y' aA.out 0;have bX:=Y' aA.out 1)|((with_reducible refine gate_callee (f:=52) rfl ?_);refine goesL_ (some 10) rfl rfl Try.func52 (by kernel_rfl) rfl #[.slice aT aI.length aV] rfl (by(try simp only[List.map_toArray,List.map_cons,List.map_nil]);first|done|rfl|(simp only[List.length_drop,List.length_take];rfl)) ?_;(with_reducible refine(laws_toBarS.calls k _ _ aI aM _ ?bD ?bB A3.out).mono ?_);(case bD=>exact X' bK.out (qK3 HB.out aG.out aH.out aN.out));(case bB=>exact bL.out);rintro e cC ⟨cX,rfl,bM,hb⟩;refine⟨_,rfl,?_⟩;have n0_:=A' (L' (by(with_reducible repeat(first|apply B'|apply C'|apply D'));exact(Q' (M' (p:=⟨aF,0,none⟩) (P' aP.out aE.out (by decide)) (fun _ hk=>hk.2) (.slice aU aK.length aS)) (fun _ h_=>h_.1))) hb);have n1_:=A' (Kd.R_lower bM (V' (qK3 HB.out aG.out aH.out aN.out)));have n2_:=A' (O' (g:=aC) (o:=.cells #[.slice aQ aL.length aR,.slice aT aI.length aV] 25 (0,0)) (qG1 aA.out aO.out) hb);have n3_:=A' (O' (g:=aB) (o:=.cells #[.slice none 0 0,.slice none 0 0] 33 (0,0)) (qG1 aD.out aJ.out) hb);have n4_:=A' (O' (g:=aF) (o:=.cells #[.slice aU aK.length aS,.slice none 0 0] 33 (0,0)) (by(with_reducible repeat(first|refine G' ?_ _|refine I' ?_|refine hA' ?_ _));refine blk_put (cs:=#[.slice none 0 0,.slice none 0 0]) ?_ 0 _ rfl;(with_reducible repeat(first|refine G' ?_ _|refine I' ?_|refine hA' ?_ _));exact aE.out) hb);have n5_:=A' (W' (qK3 HB.out aG.out aH.out aN.out) hb);clear aP;clear aA;clear aD;clear aE;clear HB;have aP:=n0_;have bH:=n1_;have aA:=n2_;have aD:=n3_;have aE:=n4_;have HB:=n5_;clear n0_ n1_ n2_ n3_ n4_ n5_;(try clear hb);(try clear hb2);(try clear hk);(try clear hi);(try clear bM);obtain⟨bC,bA,cL⟩:=Kd.R_slice bH.out;subst cL;have bS:cC.cell? ⟨aF,0,none⟩=some (.slice aU aK.length aS):=(N' aE.out 0).trans rfl;have bO:cC.cell? ⟨aF,1,none⟩=some (.slice none 0 0):=(N' aE.out 1).trans rfl;have cA:=Y' aE.out 0;have bP:=Y' aE.out 1;have bQ:cC.cell? ⟨aB,0,none⟩=some (.slice none 0 0):=(N' aD.out 0).trans rfl;have bZ:cC.cell? ⟨aB,1,none⟩=some (.slice none 0 0):=(N' aD.out 1).trans rfl;have bW:=Y' aD.out 0;have cE:=Y' aD.out 1));refine bodyPost_ret (results_cell_row rfl _ _ aB 33 #[.slice aU aK.length aS,.slice bC aM.length bA] (0,0) _ rfl (by(with_reducible repeat(first|refine G' ?_ _|refine I' ?_|refine hA' ?_ _));refine blk_put (cs:=#[.slice aU aK.length aS,.slice none 0 0]) ?_ 1 _ rfl;(with_reducible repeat(first|refine G' ?_ _|refine I' ?_|refine hA' ?_ _));refine blk_put (cs:=#[.slice none 0 0,.slice none 0 0]) ?_ 0 _ rfl;(with_reducible repeat(first|refine G' ?_ _|refine I' ?_|refine hA' ?_ _));refine bF' ?_ aJ.out _;(with_reducible repeat(first|refine G' ?_ _|refine I' ?_|refine hA' ?_ _));exact aD.out) Try.underlying33 rfl (by kernel_rfl)) rfl ?_;exact⟨_,_,qE,by(with_reducible repeat(first|apply B'|apply C'|apply D'));exact Q' (M' (p:=⟨aB,1,none⟩) (M' (p:=⟨aB,0,none⟩) (M' (p:=⟨aF,1,none⟩) (P' (P' aP.out aE.out (by decide)) aD.out (by decide)) (fun _ hk=>hk.1.2) (.slice bC aM.length bA)) (fun _ hk=>hk.2) (.slice aU aK.length aS)) (fun _ hk=>hk.2) (.slice bC aM.length bA)) (fun _ hk=>trivial),by(with_reducible repeat(first|apply B'|apply C'|apply D'));exact Q' (M' (p:=⟨aB,1,none⟩) (M' (p:=⟨aB,0,none⟩) (M' (p:=⟨aF,1,none⟩) (P' (P' bH.out aE.out (by decide)) aD.out (by decide)) (fun _ hk=>hk.1.2) (.slice bC aM.length bA)) (fun _ hk=>hk.2) (.slice aU aK.length aS)) (fun _ hk=>hk.2) (.slice bC aM.length bA)) (fun _ hk=>trivial),qK3 HB.out aG.out aH.out aN.out⟩
/-! ### laws_toInt64S: function 10 -/
def laws_toInt64S.l0:Nat→List Int→List Int→Int→Option (List Int)
 |0,_,_,_=>none
 |k+1,x0,x3,x4=>if x4<(x0.length:Int)then(if 0≤x4 then(if x4<(x3.length:Int)then(laws_toInt64S.l0 k x0 (x3.set (x4:Int).toNat (rd x0 x4)) (wrap64 (x4+1)))else(none))else(none))else(some x3)
def laws_toInt64S.f (k:Nat) (l0:List Int):Option (List Int):=if 0≤(l0.length:Int)then(if((l0.length:Int):Int).toNat≤35184372088832 then(laws_toInt64S.l0 k l0 (List.replicate ((l0.length:Int):Int).toNat 0) 0)else(none))else(none)
theorem laws_toInt64S.mono_l: ∀k,(∀y0 y1 y2,LeO (laws_toInt64S.l0 k y0 y1 y2) (laws_toInt64S.l0 (k+1) y0 y1 y2))
 |0=>fun _ _ _ r h=>by simp[laws_toInt64S.l0]at h
 |k+1=>by
  have aA:=laws_toInt64S.mono_l k
  ·intro y0 y1 y2
   unfold laws_toInt64S.l0
   repeat' first
   |(with_reducible exact aA _ _ _)
   |(with_reducible exact LeO.refl _)
   |(with_reducible exact LeO.none _)
   |(with_reducible refine LeO.ite ?_ ?_)
   |(with_reducible refine LeO.bind ?_ (fun _=>?_))
   |exact LeO.none _
   |refine LeO.ite ?_ ?_
   |refine LeO.bind ?_ (fun _=>?_)
theorem laws_toInt64S.mono: ∀a0 k,LeO (laws_toInt64S.f k a0) (laws_toInt64S.f (k+1) a0):=by
 intro a0 k
 have aA:=laws_toInt64S.mono_l k
 unfold laws_toInt64S.f
 repeat' first
  |(with_reducible exact aA _ _ _)
  |(with_reducible exact LeO.refl _)
  |(with_reducible exact LeO.none _)
  |(with_reducible refine LeO.ite ?_ ?_)
  |(with_reducible refine LeO.bind ?_ (fun _=>?_))
  |exact LeO.none _
  |refine LeO.ite ?_ ?_
  |refine LeO.bind ?_ (fun _=>?_)
set_option maxHeartbeats 8000000 in
set_option maxRecDepth 100000 in
theorem laws_toInt64S.calls (k:Nat) (A0:Option Addr) (c0:Nat) (l0:List Int) (r:List Int) (w:World) (aZ:Kd.C (Kd.int .i64) w A0 l0.length l0) (aW:l0.length≤c0) (h:laws_toInt64S.f k l0=some r):
 Calls Try.prog 10 #[.slice A0 l0.length c0] w fun e w'=>∃v0_:Value,e= .returned (v0_)∧Kd.R (Kd.int .i64) 2 w' w.heap.size (fun _=>True) v0_ r∧Below w.heap.size w w':=by
 have bE:=A' aZ;have bG:=A' aW;clear aZ aW;have HB:=A' (Below.refl w.heap.size w);have H:(if 0≤(l0.length:Int)then(if((l0.length:Int):Int).toNat≤35184372088832 then(laws_toInt64S.l0 k l0 (List.replicate ((l0.length:Int):Int).toNat 0) 0)else(none))else(none))=some r:=h;clear h
 by_cases c2:0≤(l0.length:Int)
 ·rw[if_pos c2]at H;have c2b0:=eq_true c2;have c2b1:decide (0≤(l0.length:Int))=true:=dT' c2;clear c2
  by_cases c3:((l0.length:Int):Int).toNat≤35184372088832
  ·rw[if_pos c3]at H;have c3b0:=eq_true c3;have c3b1:decide (((l0.length:Int):Int).toNat≤35184372088832)=true:=dT' c3;clear c3;obtain⟨aK,aC⟩: ∃y_:List Int,y_=(List.replicate ((l0.length:Int):Int).toNat 0):=⟨_,rfl⟩
   replace H:(laws_toInt64S.l0 k l0 aK 0)=some r:=by first|(rw[aC];with_reducible exact H)|(have H2_:=(Option.bind_some _ _).symm.trans H;rw[aC];with_reducible exact H2_)|(have H2_:=(Option.bind_some _ _).symm.trans H;with_reducible exact H2_)|with_reducible exact H|(rw[aC];exact H)|exact H
   have aF:=A' aC;clear aC;have H':=A' H;clear H;go_enter Try.func10,Try.ntmps10;go_wp2_with (first|((with_reducible refine gate_dst (N:=7) rfl ?_);refine Kd.R_make (Kd.int .i64) _ 2 rfl (N:=7) rfl 26 _ _ rfl (l0.length:Int) rfl rfl Try.underlying26 (.int .i64 0) 8 info2 rfl (by decide) (by omega) 0 (ok:=fun _=>True) (okp:=fun _=>True) rfl (fun _ hk=>hk) trivial (oD' qA) (Nat.le_trans (Nat.mul_le_mul_right _ (oD' qA:(l0.length:Int).toNat≤35184372088832)) (by omega)) (Below.refl _ _) (Nat.le_refl _) ?_;intro aR w4 aL hb hg_ hnew_;clear hg_ hnew_;(first|rw[← aF.out]at aL|(simp only[Int.reduceToNat]at aL;rw[← aF.out]at aL));have n0_:=A' (Kd.R_lower aL (V' (qK0 HB.out)));have n1_:=A' (W' (qK0 HB.out) hb);clear HB;have aM:=n0_;have HB:=n1_;clear n0_ n1_;clear hb aL))
   go_loopg [4] k (fun kq v4 w'=>∃(aB:List Int) (aA:Int),v4= .int .i64 aA∧Aside0 (laws_toInt64S.l0 kq l0 aB aA=some r)∧Aside0 (kq≤k)∧Aside0 (Kd.R (Kd.int .i64) 2 w' w.heap.size (fun _=>True) aR aB)∧Aside0 (Below w.heap.size w w'))
   case atStart=>exact⟨(aK),(0),qS,H',⟨Nat.le_refl _⟩,⟨qR aM.out⟩,⟨qK0 HB.out⟩⟩
   case round=>
    clear H';try clear c1
    try clear c2
    try clear c2b0
    try clear c2b1
    try clear p2
    try clear c3
    try clear c3b0
    try clear c3b1
    obtain⟨aB,aA,rfl,HA,aV,HO_3,HB⟩:=hrel
    cases gk with
    |zero=>exact absurd HA.out (by simp[laws_toInt64S.l0])
    |succ k1=>
     have H:=HA.out;clear HA;simp only[laws_toInt64S.l0]at H
     by_cases c6:aA<(l0.length:Int)
     ·rw[if_pos c6]at H;have c6b0:decide (aA<(l0.length:Int))=true:=dT' c6;clear c6
      by_cases c7:0≤aA
      ·rw[if_pos c7]at H;have c7b0:decide (0≤aA)=true:=dT' c7;clear c7
       by_cases c8:aA<(aB.length:Int)
       ·rw[if_pos c8]at H;have c8b0:decide (aA<(aB.length:Int))=true:=dT' c8;clear c8;obtain⟨aG,aD⟩: ∃y_:List Int,y_=(aB.set (aA:Int).toNat (rd l0 aA)):=⟨_,rfl⟩
        replace H:(laws_toInt64S.l0 k1 l0 aG (wrap64 (aA+1)))=some r:=by first|(rw[aD];with_reducible exact H)|(have H2_:=(Option.bind_some _ _).symm.trans H;rw[aD];with_reducible exact H2_)|(have H2_:=(Option.bind_some _ _).symm.trans H;with_reducible exact H2_)|with_reducible exact H|(rw[aD];exact H)|exact H
        have aN:=A' aD;clear aD;have H':=A' H;clear H;have aI:0≤(aA:Int):=oD' qA;have aH:aA<(l0.length:Int):=oD' qA;obtain⟨aX,aQ,aE⟩:=Kd.at_int bE.out aA aI aH
        cases aQ
        try replace aE:=qC HB.out aE
        replace aI:=eq_true aI;replace aH:=eq_true aH;have p9:0≤(aA:Int):=oD' qA;have q9:(aA:Int)<((aB.length:Int):Int):=oD' qA;obtain⟨aP,bB,aY,aS,bC,bF,aU⟩:=Kd.R_form HO_3.out (by omega);(first|cases aY|(injection aY with ea_ en_ ec_;(first|subst ea_|(injection ea_ with ea_;subst ea_));subst ec_;clear en_));have bD:=A' aS;have bH:=A' aU;clear aS bC aU;obtain⟨bA,aT⟩:=Kd.R_celln 0 HO_3.out (aA:Int) p9 q9;replace p9:=eq_true p9;replace q9:=eq_true q9;have aJ:=Kd.R_putg HO_3.out (aA:Int) (rd l0 aA);go_wp2_with (first|((with_reducible refine gate_store (t:=2) (p:=20) rfl ?_);refine store_event (t:=2) (p:=20) (v:=?vo_w11) (w1:=(wr.setCell ⟨aP,(aA:Int).toNat,none⟩ (.int .i64 (rd l0 aA)))) ?hg ?ho ?hn ?hr ?_;(case ho=>rfl);(case hg=>rfl);(case hn=>rfl);(case hr=>first|(go_simp;done)|(go_simp;rfl));intro aO hw;have hg:wr.grownBy aO (some aP):=(by rw[hw];exact aJ.2);have hp_:Kd.R (Kd.int .i64) 2 aO w.heap.size (fun _=>True) (.slice (some ⟨aP,0,none⟩) aB.length bB) aG:=(by rw[hw,aN.out];exact aJ.1);clear aJ;have n0_:=A' (hp_);have n1_:=A' ((by rw[hw];exact E' (HB.out) bD.out:Below w.heap.size w aO));clear HO_3;clear HB;have HO_3:=n0_;have HB:=n1_;clear n0_ n1_;clear hg hw hp_))
        go_roundg k1
        case measure=>have:=aV.out;omega
        case rel=>exact⟨(aG),(wrap64 (aA+1)),qS,H',⟨by have:=aV.out;omega⟩,⟨qR HO_3.out⟩,⟨qK0 HB.out⟩⟩
       ·rw[if_neg c8]at H;exact absurd H (by simp)
      ·rw[if_neg c7]at H;exact absurd H (by simp)
     ·rw[if_neg c6]at H;have c6b0:decide (aA<(l0.length:Int))=false:=dF' c6;clear c6;obtain rfl:=Option.some.inj H;go_wp2;go_ret;exact⟨_,qE,qR HO_3.out,qK0 HB.out⟩
  ·rw[if_neg c3]at H;exact absurd H (by simp)
 ·rw[if_neg c2]at H;exact absurd H (by simp)
/-! ### impl_freeKnots: function 58 -/
def impl_freeKnots.l0:Nat→List Int→List (S90)→Int→Int→Option (List Int)
 |0,_,_,_,_=>none
 |k+1,x3,x8,x9,aA=>if aA<x9 then(if 0≤aA then(if aA<(x8.length:Int)then(if((rd_T90 x8 aA).f2=true)then(impl_freeKnots.l0 k x3 x8 x9 (wrap64 (aA+1)))else(if x3.length<17592186044416 then(impl_freeKnots.l0 k (x3 ++ [aA]) x8 x9 (wrap64 (aA+1)))else(none)))else(none))else(none))else(some x3)
def impl_freeKnots.f (k:Nat) (aA:List (S90)) (aB:List (S104)):Option (List Int):=impl_freeKnots.l0 k (([]:List Int)) aA (aA.length:Int) 0
theorem impl_freeKnots.mono_l: ∀k,(∀y0 y1 y2 y3,LeO (impl_freeKnots.l0 k y0 y1 y2 y3) (impl_freeKnots.l0 (k+1) y0 y1 y2 y3))
 |0=>fun _ _ _ _ r h=>by simp[impl_freeKnots.l0]at h
 |k+1=>by
  have aA:=impl_freeKnots.mono_l k
  ·intro y0 y1 y2 y3
   unfold impl_freeKnots.l0
   repeat' first
   |(with_reducible exact aA _ _ _ _)
   |(with_reducible exact LeO.refl _)
   |(with_reducible exact LeO.none _)
   |(with_reducible refine LeO.ite ?_ ?_)
   |(with_reducible refine LeO.bind ?_ (fun _=>?_))
   |exact LeO.none _
   |refine LeO.ite ?_ ?_
   |refine LeO.bind ?_ (fun _=>?_)
theorem impl_freeKnots.mono: ∀a0 a1 k,LeO (impl_freeKnots.f k a0 a1) (impl_freeKnots.f (k+1) a0 a1):=by
 intro a0 a1 k
 have aA:=impl_freeKnots.mono_l k
 unfold impl_freeKnots.f
 repeat' first
  |(with_reducible exact aA _ _ _ _)
  |(with_reducible exact LeO.refl _)
  |(with_reducible exact LeO.none _)
  |(with_reducible refine LeO.ite ?_ ?_)
  |(with_reducible refine LeO.bind ?_ (fun _=>?_))
  |exact LeO.none _
  |refine LeO.ite ?_ ?_
  |refine LeO.bind ?_ (fun _=>?_)
set_option maxHeartbeats 8000000 in
set_option maxRecDepth 100000 in
theorem impl_freeKnots.calls (k:Nat) (bC:Option Addr) (bA:Nat) (aC:List (S90)) (aZ:Option Addr) (bB:Nat) (aT:List (S104)) (r:List Int) (w:World) (bG:Kd.C k90 w bC aC.length aC) (bK:aC.length≤bA) (bF:Kd.C k104 w aZ aT.length aT) (bE:aT.length≤bB) (h:impl_freeKnots.f k aC aT=some r):
 Calls Try.prog 58 #[.agg #[.slice bC aC.length bA,.slice aZ aT.length bB]] w fun e w'=>∃v0_:Value,e= .returned (v0_)∧Kd.R (Kd.int .i64) 2 w' w.heap.size (fun _=>True) v0_ r∧Below w.heap.size w w':=by
 have cX:=Try.underlying33;have cZ:=Try.underlying90;have bJ:=A' bG;have cR:=A' bK;clear bG bK;have cT:=A' bF;have cW:=A' bE;clear bF bE;have HB:=A' (Below.refl w.heap.size w);have H:(impl_freeKnots.l0 k (([]:List Int)) aC (aC.length:Int) 0)=some r:=h;clear h;obtain⟨bV,aU⟩: ∃y_:List Int,y_=(([]:List Int)):=⟨_,rfl⟩
 replace H:(impl_freeKnots.l0 k bV aC (aC.length:Int) 0)=some r:=by first|(rw[aU];with_reducible exact H)|(have H2_:=(Option.bind_some _ _).symm.trans H;rw[aU];with_reducible exact H2_)|(have H2_:=(Option.bind_some _ _).symm.trans H;with_reducible exact H2_)|with_reducible exact H|(rw[aU];exact H)|exact H
 have bI:=A' aU;clear aU;have H':=A' H;clear H;go_enter Try.func58,Try.ntmps58;go_wp2_with (first|((with_reducible refine gate_dst (N:=1) rfl ?_);refine box_event ?hg (N:=1) ?hd (cs:=#[.slice bC aC.length bA,.slice aZ aT.length bB]) (t:=33) ?hr ?_;(case hd=>rfl);(case hg=>rfl);(case hr=>first|(go_simp;done)|(go_simp;rfl));intro aI hg w2 hbox hb;have n0_:=A' (W' (qK0 HB.out) hb);have n1_:=A' (hbox);have n2_:=A' ((by rw[hg];exact(V' (qK0 HB.out)):w.heap.size≤aI));have n3_:=A' ((by rw[hg];exact(V' (qK0 HB.out)):w.heap.size≤aI));clear HB;have HB:=n0_;have aD:=n1_;have cO:=n2_;have aJ:=n3_;clear n0_ n1_ n2_ n3_;clear hb hbox hg)|((with_reducible refine gate_dst (N:=6) rfl ?_);refine Kd.R_lit (Kd.int .i64) _ 2 ?hg (N:=6) ?hd (xs:=([]:List Int)) (inner:=[]) (ok:=fun _=>True) (okp:=fun _=>True) ?hr ?hp (fun _ hk=>hk) trivial (Below.refl _ _) (Nat.le_refl _) (by simp) ?_;(case hd=>rfl);(case hg=>rfl);(case hr=>first|(go_simp;done)|(go_simp;rfl));(case hp=>exact(Reps.none _ _));intro dA w3 bY hb hg_ hnew_;clear hg_ hnew_;(first|rw[← bI.out]at bY|(simp only[Int.reduceToNat]at bY;rw[← bI.out]at bY));have n0_:=A' (Kd.R_lower bY (V' (qK1 HB.out aJ.out)));have n1_:=A' (O' (g:=aI) (qB aD.out) hb);have n2_:=A' (W' (qK1 HB.out aJ.out) hb);clear aD;clear HB;have bX:=n0_;have aD:=n1_;have HB:=n2_;clear n0_ n1_ n2_;clear hb bY;have bL:w3.cell? ⟨aI,0,none⟩=some (.slice bC aC.length bA):=(N' aD.out 0).trans rfl;have bP:w3.cell? ⟨aI,1,none⟩=some (.slice aZ aT.length bB):=(N' aD.out 1).trans rfl;have bO:=Y' aD.out 0;have bM:=Y' aD.out 1))
 go_loopg [3,10] k (fun kq v3 dB w'=>∃(aR:List Int) (aA:Int),dB= .int .i64 aA∧Aside0 (impl_freeKnots.l0 kq aR aC (aC.length:Int) aA=some r)∧Aside0 (kq≤k)∧Aside0 (Kd.R (Kd.int .i64) 2 w' w.heap.size (fun _=>True) v3 aR)∧Aside0 (w'.heap[aI]? =some (.cells #[(.slice bC aC.length bA),(.slice aZ aT.length bB)] 33 (0,0)))∧Aside0 (Below w.heap.size w w'))
 case atStart=>exact⟨(bV),(0),qS,H',⟨Nat.le_refl _⟩,⟨qR bX.out⟩,⟨qB aD.out⟩,⟨qK1 HB.out aJ.out⟩⟩
 case round=>
  clear H';try clear p2
  try clear c5
  try clear bL
  try clear bP
  try clear bO
  try clear bM
  obtain⟨aR,aA,rfl,HA,cA,HO_3,aD,HB⟩:=hrel
  cases gk with
  |zero=>exact absurd HA.out (by simp[impl_freeKnots.l0])
  |succ k1=>
   have H:=HA.out;clear HA;simp only[impl_freeKnots.l0]at H
   by_cases c6:aA<(aC.length:Int)
   ·rw[if_pos c6]at H;have c6b0:decide (aA<(aC.length:Int))=true:=dT' c6;clear c6
    by_cases c7:0≤aA
    ·rw[if_pos c7]at H;have c7b0:decide (0≤aA)=true:=dT' c7;clear c7
     by_cases c8:aA<(aC.length:Int)
     ·rw[if_pos c8]at H;have c8b0:decide (aA<(aC.length:Int))=true:=dT' c8;clear c8;obtain⟨cQ,bQ⟩: ∃b_:Bool,b_=((rd_T90 aC aA).f2):=⟨_,rfl⟩
      replace H:(if(cQ=true)then(impl_freeKnots.l0 k1 aR aC (aC.length:Int) (wrap64 (aA+1)))else(if aR.length<17592186044416 then(impl_freeKnots.l0 k1 (aR ++ [aA]) aC (aC.length:Int) (wrap64 (aA+1)))else(none)))=some r:=by rw[← bQ]at H;exact H
      have bD:=A' bQ;clear bQ
      by_cases c10:(cQ=true)
      ·subst c10;have H1:(impl_freeKnots.l0 k1 aR aC (aC.length:Int) (wrap64 (aA+1)))=some r:=by rw[if_pos rfl]at H;exact H
       clear H;have H:=H1;clear H1;have H':=A' H;clear H;have aY:0≤(aA:Int):=oD' qA;have aX:aA<(aC.length:Int):=oD' qA;obtain⟨bH,bN,aN,aM,aK⟩:=at_T90 bJ.out aA aY aX;(try rw[← bD.out]at aK);(try rw[← bD.out]at hw154_2)
       cases bN
       try replace aN:=qC HB.out aN
       try replace aM:=qC HB.out aM
       try replace aK:=qC HB.out aK
       replace aY:=eq_true aY;replace aX:=eq_true aX;go_wp2_with (first|((with_reducible refine gate_dst (N:=5) rfl ?_);refine box_event ?hg (N:=5) ?hd (cs:=#[.int .i64 0,.int .i64 0,.bool false]) (t:=90) ?hr ?_;(case hd=>rfl);(case hg=>rfl);(case hr=>first|(go_simp;done)|(go_simp;rfl));intro aG hg cM hbox hb;have n0_:=A' (L' (qR HO_3.out) hb);have n1_:=A' (O' (g:=aI) (qB aD.out) hb);have n2_:=A' (W' (qK1 HB.out aJ.out) hb);have n3_:=A' (hbox);have n4_:=A' ((by rw[hg];exact(V' (qK1 HB.out aJ.out)):w.heap.size≤aG));have n5_:=A' ((by rw[hg];exact(V' (qK1 HB.out aJ.out)):w.heap.size≤aG));have n6_:=A' ((by rw[hg];exact Nat.ne_of_lt (bL' (g:=aI) (qB aD.out)):aI≠aG));have n7_:=A' ((by rw[hg];exact Nat.ne_of_gt (bL' (g:=aI) (qB aD.out)):aG≠aI));clear HO_3;clear aD;clear HB;have HO_3:=n0_;have aD:=n1_;have HB:=n2_;have aH:=n3_;have bR:=n4_;have aV:=n5_;have aE:=n6_;have aQ:=n7_;clear n0_ n1_ n2_ n3_ n4_ n5_ n6_ n7_;clear hb hbox hg;have cS:=aQ.out;have cV:=aE.out;have cJ:cM.cell? ⟨aG,0,none⟩=some (.int .i64 0):=(N' aH.out 0).trans rfl;have cD:cM.cell? ⟨aG,1,none⟩=some (.int .i64 0):=(N' aH.out 1).trans rfl;have cL:cM.cell? ⟨aG,2,none⟩=some (.bool false):=(N' aH.out 2).trans rfl;have cI:=Y' aH.out 0;have cB:=Y' aH.out 1;have bZ:=Y' aH.out 2))
       go_roundg k1
       case measure=>have:=cA.out;omega
       case rel=>exact⟨(aR),(wrap64 (aA+1)),qS,H',⟨by have:=cA.out;omega⟩,⟨by(with_reducible repeat(first|apply B'|apply C'|apply D'));exact Q' (M' (p:=⟨aG,2,none⟩) (M' (p:=⟨aG,1,none⟩) (M' (p:=⟨aG,0,none⟩) (P' HO_3.out aH.out (by decide)) (fun _ hk=>hk.2) (.int .i64 ((rd_T90 aC aA).f0))) (fun _ hk=>hk.2) (.int .i64 ((rd_T90 aC aA).f1))) (fun _ hk=>hk.2) (.bool true)) (fun _ hk=>trivial)⟩,⟨qG3 aD.out aE.out aE.out aE.out⟩,⟨qK2 HB.out aJ.out aV.out⟩⟩
      ·replace c10:=Bool.eq_false_iff.mpr c10;subst c10;have H1:(if aR.length<17592186044416 then(impl_freeKnots.l0 k1 (aR ++ [aA]) aC (aC.length:Int) (wrap64 (aA+1)))else(none))=some r:=by rw[if_neg (show¬(false=true) by decide)]at H;exact H
       clear H;have H:=H1;clear H1
       by_cases c14:aR.length<17592186044416
       ·rw[if_pos c14]at H;have bU:=A' c14;clear c14;obtain⟨bS,aW⟩: ∃y_:List Int,y_=(aR ++ [aA]):=⟨_,rfl⟩
        replace H:(impl_freeKnots.l0 k1 bS aC (aC.length:Int) (wrap64 (aA+1)))=some r:=by first|(rw[aW];with_reducible exact H)|(have H2_:=(Option.bind_some _ _).symm.trans H;rw[aW];with_reducible exact H2_)|(have H2_:=(Option.bind_some _ _).symm.trans H;with_reducible exact H2_)|with_reducible exact H|(rw[aW];exact H)|exact H
        have bW:=A' aW;clear aW;have H':=A' H;clear H;have aY:0≤(aA:Int):=oD' qA;have aX:aA<(aC.length:Int):=oD' qA;obtain⟨bH,bN,aN,aM,aK⟩:=at_T90 bJ.out aA aY aX;(try rw[← bD.out]at aK);(try rw[← bD.out]at hw154_2)
        cases bN
        try replace aN:=qC HB.out aN
        try replace aM:=qC HB.out aM
        try replace aK:=qC HB.out aK
        replace aY:=eq_true aY;replace aX:=eq_true aX;go_wp2_with (first|((with_reducible refine gate_dst (N:=5) rfl ?_);refine box_event ?hg (N:=5) ?hd (cs:=#[.int .i64 0,.int .i64 0,.bool false]) (t:=90) ?hr ?_;(case hd=>rfl);(case hg=>rfl);(case hr=>first|(go_simp;done)|(go_simp;rfl));intro aG hg cN hbox hb;have n0_:=A' (L' (qR HO_3.out) hb);have n1_:=A' (O' (g:=aI) (qB aD.out) hb);have n2_:=A' (W' (qK1 HB.out aJ.out) hb);have n3_:=A' (hbox);have n4_:=A' ((by rw[hg];exact(V' (qK1 HB.out aJ.out)):w.heap.size≤aG));have n5_:=A' ((by rw[hg];exact(V' (qK1 HB.out aJ.out)):w.heap.size≤aG));have n6_:=A' ((by rw[hg];exact Nat.ne_of_lt (bL' (g:=aI) (qB aD.out)):aI≠aG));have n7_:=A' ((by rw[hg];exact Nat.ne_of_gt (bL' (g:=aI) (qB aD.out)):aG≠aI));clear HO_3;clear aD;clear HB;have HO_3:=n0_;have aD:=n1_;have HB:=n2_;have aH:=n3_;have bR:=n4_;have aV:=n5_;have aE:=n6_;have aQ:=n7_;clear n0_ n1_ n2_ n3_ n4_ n5_ n6_ n7_;clear hb hbox hg;have cU:=aQ.out;have cP:=aE.out;have cH:cN.cell? ⟨aG,0,none⟩=some (.int .i64 0):=(N' aH.out 0).trans rfl;have cE:cN.cell? ⟨aG,1,none⟩=some (.int .i64 0):=(N' aH.out 1).trans rfl;have cG:cN.cell? ⟨aG,2,none⟩=some (.bool false):=(N' aH.out 2).trans rfl;have cK:=Y' aH.out 0;have cF:=Y' aH.out 1;have cC:=Y' aH.out 2)|((with_reducible refine gate_builtin (b:=.append) (xs:=#[.tmp 18,.tmp 20]) rfl ?_);at_builtin;refine Kd.R_append (Kd.int .i64) (w0:=w) w.heap.size rfl (.tmp 18) (.tmp 20) 26 2 (.int .i64 0) 8 rfl Try.underlying26 info2 rfl (by decide) (by omega) u3 aR aA [.int .i64 aA] (fun _=>True) (fun _=>False) rfl (by first|(go_simp;done)|(go_simp;rfl)) ?aP (fun _ hk=>hk.elim) ?aF ?aO ?aB ?aS ?aL ?_;(case aP=>exact rfl);(case aB=>exact(qK2 HB.out aJ.out aV.out));(case aF=>exact(fun _ _=>trivial));(case aO=>exact(by(with_reducible repeat(first|apply B'|apply C'|apply D'));exact Q' (M' (p:=⟨aG,2,none⟩) (M' (p:=⟨aG,1,none⟩) (M' (p:=⟨aG,0,none⟩) (P' HO_3.out aH.out (by decide)) (fun _ hk=>hk.2) (.int .i64 ((rd_T90 aC aA).f0))) (fun _ hk=>hk.2) (.int .i64 ((rd_T90 aC aA).f1))) (fun _ hk=>hk.2) (.bool false)) (fun _ hk=>trivial)));(case aS=>exact(V' (qK2 HB.out aJ.out aV.out)));(case aL=>have:=bU.out;omega);intro cY dC ho hb hg hat;rw[← bW.out]at ho;have n0_:=A' (blk_grown (g:=aI) (o:=.cells #[.slice (some bH) aC.length bA,.slice aZ aT.length bB] 33 (0,0)) (qG3 aD.out aE.out aE.out aE.out) hg (Kd.R_ne HO_3.out aD.out (by decide)));have n1_:=A' (blk_grown (g:=aG) (o:=.cells #[.int .i64 ((rd_T90 aC aA).f0),.int .i64 ((rd_T90 aC aA).f1),.bool false] 90 (0,0)) (by(with_reducible repeat(first|refine G' ?_ _|refine I' ?_|refine hA' ?_ _));refine blk_put (cs:=#[.int .i64 ((rd_T90 aC aA).f0),.int .i64 ((rd_T90 aC aA).f1),.bool false]) ?_ 2 _ rfl;(with_reducible repeat(first|refine G' ?_ _|refine I' ?_|refine hA' ?_ _));refine blk_put (cs:=#[.int .i64 ((rd_T90 aC aA).f0),.int .i64 0,.bool false]) ?_ 1 _ rfl;(with_reducible repeat(first|refine G' ?_ _|refine I' ?_|refine hA' ?_ _));refine blk_put (cs:=#[.int .i64 0,.int .i64 0,.bool false]) ?_ 0 _ rfl;(with_reducible repeat(first|refine G' ?_ _|refine I' ?_|refine hA' ?_ _));exact aH.out) hg (Kd.R_ne HO_3.out aH.out (by decide)));have n2_:=A' (hb);have n3_:=A' (ho);clear aD;clear aH;clear HB;clear HO_3;have aD:=n0_;have aH:=n1_;have HB:=n2_;have bT:=n3_;clear n0_ n1_ n2_ n3_;clear ho hb hg hat))
        go_roundg k1
        case measure=>have:=cA.out;omega
        case rel=>exact⟨(bS),(wrap64 (aA+1)),qS,H',⟨by have:=cA.out;omega⟩,⟨qR bT.out⟩,⟨qB aD.out⟩,⟨qK2 HB.out aJ.out aV.out⟩⟩
       ·rw[if_neg c14]at H;exact absurd H (by simp)
     ·rw[if_neg c8]at H;exact absurd H (by simp)
    ·rw[if_neg c7]at H;exact absurd H (by simp)
   ·rw[if_neg c6]at H;have c6b0:decide (aA<(aC.length:Int))=false:=dF' c6;clear c6;obtain rfl:=Option.some.inj H;go_wp2;go_ret;exact⟨_,qE,qR HO_3.out,qK1 HB.out aJ.out⟩
/-! ### impl_within: function 81 -/
def impl_within.f (a0:Int) (a1:Int) (a2:Int):Option (Bool):=if a0≥a1 then(some (decide (a0≤a2)))else(some false)
set_option maxHeartbeats 8000000 in
set_option maxRecDepth 100000 in
theorem impl_within.calls (a0:Int) (a1:Int) (a2:Int) (r:Bool) (w:World) (h:impl_within.f a0 a1 a2=some r):
 Calls Try.prog 81 #[.int .i64 a0,.int .i64 a1,.int .i64 a2] w fun e w'=>e= .returned (.bool r)∧Drawn0 w w':=by
 have H:(if a0≥a1 then(some (decide (a0≤a2)))else(some false))=some r:=h
 clear h
 by_cases c4:a0≥a1
 ·rw[if_pos c4]at H
  have c4b0:decide (a1≤a0)=true:=decide_eq_true c4
  clear c4
  obtain rfl:=Option.some.inj H
  go_enter Try.func81,Try.ntmps81
  go_wp2
  go_ret
  exact⟨by first|rfl|(simp;done)|(simp[*];done),by repeat(first|exact Drawn0.refl _|apply Drawn0.step)⟩
 ·rw[if_neg c4]at H
  have c4b0:decide (a1≤a0)=false:=decide_eq_false c4
  clear c4
  obtain rfl:=Option.some.inj H
  go_enter Try.func81,Try.ntmps81
  go_wp2
  go_ret
  exact⟨by first|rfl|(simp;done)|(simp[*];done),by repeat(first|exact Drawn0.refl _|apply Drawn0.step)⟩
end Go.Proofs.Ytebbdadpgapobaa.HEl
