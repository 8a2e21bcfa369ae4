-- Written by a program for this claim (the functions that the statement reaches, and that the program's code comes to them).
import Derived.Test.YtebbdadpgapobaaHElx0
import Derived.Test.YtebbdadpgapobaaHElx3
import Derived.Test.YtebbdadpgapobaaHElx4
import Derived.Test.YtebbdadpgapobaaHElx12
namespace Go.Proofs.Ytebbdadpgapobaa.HEl
open Go.RowKit Go.Proofs.YtebbdadpgapobaaW.PrintWords Go.Proofs.YtebbdadpgapobaaW.PrintLast Go.Proofs.YtebbdadpgapobaaW.PrintMore
attribute [local go_sem] max2_int min2_int max_two min_two max_three min_three max_four min_four
set_option linter.unusedVariables false
set_option linter.unusedSimpArgs false
/-! ### laws_toPullS: function 18 -/
def laws_toPullS.l0:Nat→List (S98)→List (S76)→Int→Option ((List (S76)))
 |0,_,_,_=>none
 |k+1,x0,x3,x4=>if x4<(x0.length:Int)then(if 0≤x4 then((laws_toPull.f ((rd_T98 x0 x4).f0) ((rd_T98 x0 x4).f1)).bind fun aA=>(if x4<(x3.length:Int)then(laws_toPullS.l0 k x0 (x3.set (x4:Int).toNat (⟨aA.1,aA.2⟩:S76)) (wrap64 (x4+1)))else(none)))else(none))else(some x3)
def laws_toPullS.f (k:Nat) (l0:List (S98)):Option ((List (S76))):=if 0≤(l0.length:Int)then(if((l0.length:Int):Int).toNat≤17592186044416 then(laws_toPullS.l0 k l0 (List.replicate ((l0.length:Int):Int).toNat z76) 0)else(none))else(none)
theorem laws_toPullS.mono_l: ∀k,(∀y0 y1 y2,LeO (laws_toPullS.l0 k y0 y1 y2) (laws_toPullS.l0 (k+1) y0 y1 y2))
 |0=>fun _ _ _ r h=>by simp[laws_toPullS.l0]at h
 |k+1=>by
  have aA:=laws_toPullS.mono_l k
  ·intro y0 y1 y2
   unfold laws_toPullS.l0
   repeat' first
   |(with_reducible exact aA _ _ _)
   |(with_reducible exact LeO.refl _)
   |(with_reducible exact LeO.none _)
   |(with_reducible refine LeO.ite ?_ ?_)
   |(with_reducible refine LeO.bind ?_ (fun _=>?_))
   |exact LeO.none _
   |refine LeO.ite ?_ ?_
   |refine LeO.bind ?_ (fun _=>?_)
theorem laws_toPullS.mono: ∀a0 k,LeO (laws_toPullS.f k a0) (laws_toPullS.f (k+1) a0):=by
 intro a0 k
 have aA:=laws_toPullS.mono_l k
 unfold laws_toPullS.f
 repeat' first
  |(with_reducible exact aA _ _ _)
  |(with_reducible exact LeO.refl _)
  |(with_reducible exact LeO.none _)
  |(with_reducible refine LeO.ite ?_ ?_)
  |(with_reducible refine LeO.bind ?_ (fun _=>?_))
  |exact LeO.none _
  |refine LeO.ite ?_ ?_
  |refine LeO.bind ?_ (fun _=>?_)
set_option maxHeartbeats 8000000 in
set_option maxRecDepth 100000 in
theorem laws_toPullS.calls (k:Nat) (A0:Option Addr) (c0:Nat) (l0:List (S98)) (r:List (S76)) (w:World) (bZ:Kd.C k98 w A0 l0.length l0) (bX:l0.length≤c0) (h:laws_toPullS.f k l0=some r):
 Calls Try.prog 18 #[.slice A0 l0.length c0] w fun e w'=>∃v0_:Value,e= .returned (v0_)∧Kd.R k76 76 w' w.heap.size (fun _=>True) v0_ r∧Below w.heap.size w w':=by
 have cE:=Try.underlying98;have cA:=Try.underlying76;have cD:=A' bZ;have cH:=A' bX;clear bZ bX;have HB:=A' (Below.refl w.heap.size w);have H:(if 0≤(l0.length:Int)then(if((l0.length:Int):Int).toNat≤17592186044416 then(laws_toPullS.l0 k l0 (List.replicate ((l0.length:Int):Int).toNat z76) 0)else(none))else(none))=some r:=h;clear h
 by_cases c2:0≤(l0.length:Int)
 ·rw[if_pos c2]at H;have c2b0:=eq_true c2;have c2b1:decide (0≤(l0.length:Int))=true:=dT' c2;clear c2
  by_cases c3:((l0.length:Int):Int).toNat≤17592186044416
  ·rw[if_pos c3]at H;have c3b0:=eq_true c3;have c3b1:decide (((l0.length:Int):Int).toNat≤17592186044416)=true:=dT' c3;clear c3;obtain⟨bC,aE⟩: ∃y_:List (S76),y_=(List.replicate ((l0.length:Int):Int).toNat z76):=⟨_,rfl⟩
   replace H:(laws_toPullS.l0 k l0 bC 0)=some r:=by first|(rw[aE];with_reducible exact H)|(have H2_:=(Option.bind_some _ _).symm.trans H;rw[aE];with_reducible exact H2_)|(have H2_:=(Option.bind_some _ _).symm.trans H;with_reducible exact H2_)|with_reducible exact H|(rw[aE];exact H)|exact H
   have aN:=A' aE;clear aE;have H':=A' H;clear H;go_enter Try.func18,Try.ntmps18;go_wp2_with (first|((with_reducible refine gate_dst (N:=7) rfl ?_);refine Kd.R_make k76 _ 76 rfl (N:=7) rfl 47 _ _ rfl (l0.length:Int) rfl rfl Try.underlying47 (.agg #[(.int .i64 0),(.int .i64 0)]) 16 info76 rfl (by decide) (by omega) z76 (ok:=fun _=>True) (okp:=fun _=>True) (k76_mkM _ _ _ z76) (fun _ hk=>hk) trivial (oD' qA) (Nat.le_trans (Nat.mul_le_mul_right _ (oD' qA:(l0.length:Int).toNat≤17592186044416)) (by omega)) (Below.refl _ _) (Nat.le_refl _) ?_;intro bR w4 aZ hb hg_ hnew_;clear hg_ hnew_;(first|rw[← aN.out]at aZ|(simp only[Int.reduceToNat]at aZ;rw[← aN.out]at aZ));have n0_:=A' (Kd.R_lower aZ (V' (qK0 HB.out)));have n1_:=A' (W' (qK0 HB.out) hb);clear HB;have bI:=n0_;have HB:=n1_;clear n0_ n1_;clear hb aZ))
   go_loopg [4] k (fun kq v4 w'=>∃(aB:List (S76)) (aA:Int),v4= .int .i64 aA∧Aside0 (laws_toPullS.l0 kq l0 aB aA=some r)∧Aside0 (kq≤k)∧Aside0 (Kd.R k76 76 w' w.heap.size (fun _=>True) bR aB)∧Aside0 (Below w.heap.size w w'))
   case atStart=>exact⟨(bC),(0),qS,H',⟨Nat.le_refl _⟩,⟨qR bI.out⟩,⟨qK0 HB.out⟩⟩
   case round=>
    clear H';try clear c1
    try clear c2
    try clear c2b0
    try clear c2b1
    try clear p2
    try clear c3
    try clear c3b0
    try clear c3b1
    obtain⟨aB,aA,rfl,HA,bV,HO_3,HB⟩:=hrel
    cases gk with
    |zero=>exact absurd HA.out (by simp[laws_toPullS.l0])
    |succ k1=>
     have H:=HA.out;clear HA;simp only[laws_toPullS.l0]at H
     by_cases c6:aA<(l0.length:Int)
     ·rw[if_pos c6]at H;have c6b0:decide (aA<(l0.length:Int))=true:=dT' c6;clear c6
      by_cases c7:0≤aA
      ·rw[if_pos c7]at H;have c7b0:decide (0≤aA)=true:=dT' c7;clear c7;replace H:=Option.bind_eq_some_iff.mp H;obtain⟨⟨aG,aF⟩,bW,H⟩:=H;replace H:(if aA<(aB.length:Int)then(laws_toPullS.l0 k1 l0 (aB.set (aA:Int).toNat (⟨aG,aF⟩:S76)) (wrap64 (aA+1)))else(none))=some r:=H;have A8:=A' bW;clear bW
       by_cases c9:aA<(aB.length:Int)
       ·rw[if_pos c9]at H;have c9b0:decide (aA<(aB.length:Int))=true:=dT' c9;clear c9;obtain⟨aX,aD⟩: ∃y_:List (S76),y_=(aB.set (aA:Int).toNat (⟨aG,aF⟩:S76)):=⟨_,rfl⟩
        replace H:(laws_toPullS.l0 k1 l0 aX (wrap64 (aA+1)))=some r:=by first|(rw[aD];with_reducible exact H)|(have H2_:=(Option.bind_some _ _).symm.trans H;rw[aD];with_reducible exact H2_)|(have H2_:=(Option.bind_some _ _).symm.trans H;with_reducible exact H2_)|with_reducible exact H|(rw[aD];exact H)|exact H
        have aY:=A' aD;clear aD;have H':=A' H;clear H;have aT:0≤(aA:Int):=oD' qA;have aV:aA<(l0.length:Int):=oD' qA;obtain⟨bY,bQ,aI,aH⟩:=at_T98 cD.out aA aT aV
        cases bQ
        try replace aI:=qC HB.out aI
        try replace aH:=qC HB.out aH
        replace aT:=eq_true aT;replace aV:=eq_true aV;go_wp2_with (first|((with_reducible refine gate_callee (f:=63) rfl ?_);refine goesL_ (some 20) rfl rfl Try.func63 (by kernel_rfl) rfl #[.agg #[.int .i64 ((rd_T98 l0 aA).f0),.int .i64 ((rd_T98 l0 aA).f1)]] rfl (by(try simp only[List.map_toArray,List.map_cons,List.map_nil]);first|done|rfl|(simp only[List.length_drop,List.length_take];rfl)) ?_;(with_reducible refine(laws_toPull.calls ((rd_T98 l0 aA).f0) ((rd_T98 l0 aA).f1) aG aF _ A8.out).mono ?_);rintro e aR ⟨rfl,hb⟩;refine⟨_,rfl,?_⟩;replace HO_3:=A' (L' (qR HO_3.out) hb);replace HB:=A' (W' (qK0 HB.out) hb);(try clear hb);(try clear hb2);(try clear hk);(try clear hi);have bT:0≤(aA:Int):=oD' qA;have bL:(aA:Int)<((aB.length:Int):Int):=oD' qA;obtain⟨aC,bJ,bB,bG,bS,cF,bA⟩:=Kd.R_form HO_3.out (by omega);(first|cases bB|(injection bB with ea_ en_ ec_;(first|subst ea_|(injection ea_ with ea_;subst ea_));subst ec_;clear en_));have bH:=A' bG;have cG:=A' bA;clear bG bS bA;obtain⟨cC,bE,bD,aM,aK⟩:=Kd.R_elem HO_3.out z76 (aA:Int) bT bL;obtain rfl:=k76_openM bD;have bM:aR.cell? ⟨aC,(aA:Int).toNat*2,none⟩=some (.int .i64 ((rd_T76 aB aA).f0)):=aM 0 _ rfl;have bO:aR.cell? ⟨aC,(aA:Int).toNat*2+1,none⟩=some (.int .i64 ((rd_T76 aB aA).f1)):=aM 1 _ rfl;have bP:aR.frozen? ⟨aC,(aA:Int).toNat*2,none⟩=false:=aK 0;have bU:aR.frozen? ⟨aC,(aA:Int).toNat*2+1,none⟩=false:=aK 1;clear bE aM aK bD;replace bT:=eq_true bT;replace bL:=eq_true bL;have bF:=A' (show Kd.R k76 76 aR w.heap.size (fun _=>True) (.slice (some ⟨aC,0,none⟩) aB.length bJ) aB from(qR HO_3.out));obtain⟨cB,aO,bK,aJ,aL⟩:=Kd.R_elem bF.out z76 (aA:Int) (oD' qA) (by have h_:(aA:Int)<((aB.length:Int):Int):=oD' qA;first|exact h_|(have e_:=(Kd.R_reads' HO_3.out).1;omega)|simpa using h_);obtain rfl:=k76_openM bK;have aW:=Kd.R_seg bF.out (aA:Int) (oD' qA) (by have h_:(aA:Int)<((aB.length:Int):Int):=oD' qA;first|exact h_|(have e_:=(Kd.R_reads' HO_3.out).1;omega)|simpa using h_) (seg:=[.int .i64 aG,.int .i64 aF]) (j:=0) aO aJ (show 2≤2 from by decide) (x':=(⟨aG,aF⟩:S76)) (k76_mkM _ _ _ (⟨aG,aF⟩:S76)) (fun _ hk=>hk);have aQ:=aJ 0 _ rfl;(try simp only[show(k76).sz=2 from rfl,Nat.mul_one,Nat.add_zero]at aQ);have aP:=aL 0;(try simp only[show(k76).sz=2 from rfl,Nat.mul_one,Nat.add_zero]at aP);have aS:=aJ 1 _ rfl;(try simp only[show(k76).sz=2 from rfl,Nat.mul_one,Nat.add_zero]at aS);have aU:=aL 1;(try simp only[show(k76).sz=2 from rfl,Nat.mul_one,Nat.add_zero]at aU);clear aO aJ aL bK)|((with_reducible refine gate_store (t:=76) (p:=21) rfl ?_);refine store_event (t:=76) (p:=21) (v:=?vo_w13) (w1:=((aR.setCell ⟨aC,(aA:Int).toNat*2,none⟩ (.int .i64 aG)).setCell ⟨aC,(aA:Int).toNat*2+1,none⟩ (.int .i64 aF))) ?hg ?ho ?hn ?hr ?_;(case ho=>rfl);(case hg=>rfl);(case hn=>rfl);(case hr=>first|(go_simp;done)|(go_simp;rfl));intro bN hw;have hg:aR.grownBy bN (some aC):=(by rw[hw];exact aW.2);have hp_:Kd.R k76 76 bN w.heap.size (fun _=>True) (.slice (some ⟨aC,0,none⟩) aB.length bJ) aX:=(by rw[hw,aY.out];exact aW.1);clear aW;have n0_:=A' (hp_);have n1_:=A' ((by rw[hw];exact E' (E' (HB.out) bH.out) bH.out:Below w.heap.size w bN));clear HO_3;clear HB;have HO_3:=n0_;have HB:=n1_;clear n0_ n1_;clear hg hw hp_))
        go_roundg k1
        case measure=>have:=bV.out;omega
        case rel=>exact⟨(aX),(wrap64 (aA+1)),qS,H',⟨by have:=bV.out;omega⟩,⟨qR HO_3.out⟩,⟨qK0 HB.out⟩⟩
       ·rw[if_neg c9]at H;exact absurd H (by simp)
      ·rw[if_neg c7]at H;exact absurd H (by simp)
     ·rw[if_neg c6]at H;have c6b0:decide (aA<(l0.length:Int))=false:=dF' c6;clear c6;obtain rfl:=Option.some.inj H;go_wp2;go_ret;exact⟨_,qE,qR HO_3.out,qK0 HB.out⟩
  ·rw[if_neg c3]at H;exact absurd H (by simp)
 ·rw[if_neg c2]at H;exact absurd H (by simp)
/-! ### impl_ValidLoads: function 44 -/
mutual
def impl_ValidLoads.j0:Nat→List (S76)→Bool→Option (Bool)
 |0,_,_=>none
 |k+1,x1,aA=>if aA=true then(some false)else(impl_ValidLoads.l0 k x1 (x1.length:Int) 0)
def impl_ValidLoads.l0:Nat→List (S76)→Int→Int→Option (Bool)
 |0,_,_,_=>none
 |k+1,aB,aE,aA=>if aA<aE then(if 0≤aA then(if aA<(aB.length:Int)then((impl_within.f ((rd_T76 aB aA).f0) (-100) 100).bind fun aC=>(if aC=true then((impl_within.f ((rd_T76 aB aA).f1) (-100) 100).bind fun aD=>(if aD=true then(impl_ValidLoads.l0 k aB aE (wrap64 (aA+1)))else(some false)))else(some false)))else(none))else(none))else(some true)
end
def impl_ValidLoads.f (k:Nat) (aA:List (S90)) (aC:List (S104)) (l1:List (S76)):Option (Bool):=(impl_ValidFrame.f k aA aC).bind fun aB=>(if aB=true then(impl_ValidLoads.j0 k l1 ((l1.length:Int) != (aA.length:Int)))else(impl_ValidLoads.j0 k l1 true))
theorem impl_ValidLoads.mono_l: ∀k,(∀y0 y1,LeO (impl_ValidLoads.j0 k y0 y1) (impl_ValidLoads.j0 (k+1) y0 y1))∧(∀y0 y1 y2,LeO (impl_ValidLoads.l0 k y0 y1 y2) (impl_ValidLoads.l0 (k+1) y0 y1 y2))
 |0=>⟨fun _ _ r h=>by simp[impl_ValidLoads.j0]at h,fun _ _ _ r h=>by simp[impl_ValidLoads.l0]at h⟩
 |k+1=>by
  obtain⟨aA,aB⟩:=impl_ValidLoads.mono_l k
  refine⟨?_,?_⟩
  ·intro y0 y1
   unfold impl_ValidLoads.j0
   repeat' first
   |(with_reducible exact aA _ _)
   |(with_reducible exact aB _ _ _)
   |(with_reducible exact impl_ValidFrame.mono _ _ _)
   |(with_reducible exact LeO.refl _)
   |(with_reducible exact LeO.none _)
   |(with_reducible refine LeO.ite ?_ ?_)
   |(with_reducible refine LeO.bind ?_ (fun _=>?_))
   |exact LeO.none _
   |refine LeO.ite ?_ ?_
   |refine LeO.bind ?_ (fun _=>?_)
  ·intro y0 y1 y2
   unfold impl_ValidLoads.l0
   repeat' first
   |(with_reducible exact aA _ _)
   |(with_reducible exact aB _ _ _)
   |(with_reducible exact impl_ValidFrame.mono _ _ _)
   |(with_reducible exact LeO.refl _)
   |(with_reducible exact LeO.none _)
   |(with_reducible refine LeO.ite ?_ ?_)
   |(with_reducible refine LeO.bind ?_ (fun _=>?_))
   |exact LeO.none _
   |refine LeO.ite ?_ ?_
   |refine LeO.bind ?_ (fun _=>?_)
theorem impl_ValidLoads.mono: ∀a0 a1 a2 k,LeO (impl_ValidLoads.f k a0 a1 a2) (impl_ValidLoads.f (k+1) a0 a1 a2):=by
 intro a0 a1 a2 k
 obtain⟨aA,aB⟩:=impl_ValidLoads.mono_l k
 unfold impl_ValidLoads.f
 repeat' first
  |(with_reducible exact aA _ _)
  |(with_reducible exact aB _ _ _)
  |(with_reducible exact impl_ValidFrame.mono _ _ _)
  |(with_reducible exact LeO.refl _)
  |(with_reducible exact LeO.none _)
  |(with_reducible refine LeO.ite ?_ ?_)
  |(with_reducible refine LeO.bind ?_ (fun _=>?_))
  |exact LeO.none _
  |refine LeO.ite ?_ ?_
  |refine LeO.bind ?_ (fun _=>?_)
set_option maxHeartbeats 8000000 in
set_option maxRecDepth 100000 in
theorem impl_ValidLoads.calls (k:Nat) (aP:Option Addr) (aQ:Nat) (aK:List (S90)) (aO:Option Addr) (aR:Nat) (aL:List (S104)) (A1:Option Addr) (c1:Nat) (l1:List (S76)) (r:Bool) (w:World) (bQ:Kd.C k90 w aP aK.length aK) (bW:aK.length≤aQ) (bP:Kd.C k104 w aO aL.length aL) (bO:aL.length≤aR) (cT:Kd.C k76 w A1 l1.length l1) (cY:l1.length≤c1) (h:impl_ValidLoads.f k aK aL l1=some r):
 Calls Try.prog 44 #[.agg #[.slice aP aK.length aQ,.slice aO aL.length aR],.slice A1 l1.length c1] w fun e w'=>e= .returned (.bool r)∧Below w.heap.size w w':=by
 have dJ:=Try.underlying33;have dK:=Try.underlying76;have bT:=A' bQ;have bR:=A' bW;clear bQ bW;have bU:=A' bP;have bV:=A' bO;clear bP bO;have cQ:=A' cT;have dO:=A' cY;clear cT cY;have HB:=A' (Below.refl w.heap.size w);have H:((impl_ValidFrame.f k aK aL).bind fun bM=>(if bM=true then(impl_ValidLoads.j0 k l1 ((l1.length:Int) != (aK.length:Int)))else(impl_ValidLoads.j0 k l1 true)))=some r:=h;clear h;have cR:=A' H;clear H;go_enter Try.func44,Try.ntmps44;go_upto_region 1 with (first|((with_reducible refine gate_dst (N:=2) rfl ?_);(try(refine gate_guard (by rfl) ?_;dsimp only));refine box_event ?hg (N:=2) ?hd (cs:=#[.slice aP aK.length aQ,.slice aO aL.length aR]) (t:=33) ?hr ?_;(case hd=>rfl);(case hg=>rfl);(case hr=>first|(go_simp;done)|(go_simp;rfl));intro aC hg w4 hbox hb;have n0_:=A' (W' (qK0 HB.out) hb);have n1_:=A' (hbox);have n2_:=A' ((by rw[hg];exact(V' (qK0 HB.out)):w.heap.size≤aC));have n3_:=A' ((by rw[hg];exact(V' (qK0 HB.out)):w.heap.size≤aC));clear HB;have HB:=n0_;have aA:=n1_;have dI:=n2_;have aE:=n3_;clear n0_ n1_ n2_ n3_;clear hb hbox hg))
 (try simp only[Act.put,List.setIfInBounds_toArray,List.set_cons_zero,List.set_cons_succ])
 go_cut [17] (fun dM wc=>∃(kq:Nat) (aU:Bool),dM= .bool aU∧Aside0 (impl_ValidLoads.j0 kq l1 aU=some r)∧Aside0 (kq≤k)∧Aside0 (wc.heap[aC]? =some (.cells #[(.slice aP aK.length aQ),(.slice aO aL.length aR)] 33 (0,0)))∧Aside0 (Below w.heap.size w wc))
 case first=>
  have H:=cR.out;clear cR;replace H:=Option.bind_eq_some_iff.mp H;obtain⟨bM,cW,H⟩:=H;replace H:(if bM=true then(impl_ValidLoads.j0 k l1 ((l1.length:Int) != (aK.length:Int)))else(impl_ValidLoads.j0 k l1 true))=some r:=H;have A5:=A' cW;clear cW
  by_cases c6:bM=true
  ·subst c6;have H1:(impl_ValidLoads.j0 k l1 ((l1.length:Int) != (aK.length:Int)))=some r:=by rw[if_pos rfl]at H;exact H
   clear H;have H:=H1;clear H1;have H':=A' H;clear H;have bE:w4.cell? ⟨aC,0,none⟩=some (.slice aP aK.length aQ):=(N' aA.out 0).trans rfl;have bJ:w4.cell? ⟨aC,1,none⟩=some (.slice aO aL.length aR):=(N' aA.out 1).trans rfl;have bI:=Y' aA.out 0;have aZ:=Y' aA.out 1;go_wp2_with (first|((with_reducible refine gate_callee (f:=53) rfl ?_);refine goesL_ (some 8) rfl rfl Try.func53 (by kernel_rfl) rfl #[.agg #[.slice aP aK.length aQ,.slice aO aL.length aR]] rfl (by(try simp only[List.map_toArray,List.map_cons,List.map_nil]);first|done|rfl|(simp only[List.length_drop,List.length_take];rfl)) ?_;(with_reducible refine(impl_ValidFrame.calls k _ _ aK _ _ aL true _ ?bC ?bB ?bA ?bD A5.out).mono ?_);(case bC=>exact qT (X' bT.out HB.out));(case bB=>exact bR.out);(case bA=>exact qT (X' bU.out HB.out));(case bD=>exact bV.out);rintro e w8 ⟨rfl,hb⟩;refine⟨_,rfl,?_⟩;replace aA:=A' (O' (g:=aC) (qB aA.out) hb);replace HB:=A' (W' (qK1 HB.out aE.out) hb);(try clear hb);(try clear hb2);(try clear hk);(try clear hi);have bH:w8.cell? ⟨aC,0,none⟩=some (.slice aP aK.length aQ):=(N' aA.out 0).trans rfl;have bG:w8.cell? ⟨aC,1,none⟩=some (.slice aO aL.length aR):=(N' aA.out 1).trans rfl;have bL:=Y' aA.out 0;have bF:=Y' aA.out 1))
   go_meet
   case rel=>exact⟨_,(((l1.length:Int) != (aK.length:Int))),qS,H',⟨by first|omega|exact Nat.le_refl _⟩,⟨qB aA.out⟩,⟨qK1 HB.out aE.out⟩⟩
  ·replace c6:=Bool.eq_false_iff.mpr c6;subst c6;have H1:(impl_ValidLoads.j0 k l1 true)=some r:=by rw[if_neg (show¬(false=true) by decide)]at H;exact H
   clear H;have H:=H1;clear H1;have H':=A' H;clear H;have aT:w4.cell? ⟨aC,0,none⟩=some (.slice aP aK.length aQ):=(N' aA.out 0).trans rfl;have aW:w4.cell? ⟨aC,1,none⟩=some (.slice aO aL.length aR):=(N' aA.out 1).trans rfl;have aV:=Y' aA.out 0;have aX:=Y' aA.out 1;go_wp2_with (first|((with_reducible refine gate_callee (f:=53) rfl ?_);refine goesL_ (some 8) rfl rfl Try.func53 (by kernel_rfl) rfl #[.agg #[.slice aP aK.length aQ,.slice aO aL.length aR]] rfl (by(try simp only[List.map_toArray,List.map_cons,List.map_nil]);first|done|rfl|(simp only[List.length_drop,List.length_take];rfl)) ?_;(with_reducible refine(impl_ValidFrame.calls k _ _ aK _ _ aL false _ ?bC ?bB ?bA ?bD A5.out).mono ?_);(case bC=>exact qT (X' bT.out HB.out));(case bB=>exact bR.out);(case bA=>exact qT (X' bU.out HB.out));(case bD=>exact bV.out);rintro e dN ⟨rfl,hb⟩;refine⟨_,rfl,?_⟩;replace aA:=A' (O' (g:=aC) (qB aA.out) hb);replace HB:=A' (W' (qK1 HB.out aE.out) hb);(try clear hb);(try clear hb2);(try clear hk);(try clear hi)))
   go_meet
   case rel=>exact⟨_,(true),qS,H',⟨by first|omega|exact Nat.le_refl _⟩,⟨qB aA.out⟩,⟨qK1 HB.out aE.out⟩⟩
 case rest=>
  clear cR;try clear c1
  try clear p2
  try clear c4
  try clear c5
  try clear c6
  try clear aT
  try clear aW
  try clear bE
  try clear bJ
  try clear bH
  try clear bG
  try clear aV
  try clear aX
  try clear bI
  try clear aZ
  try clear bL
  try clear bF
  obtain⟨kq,aU,rfl,HA,dC,aA,HB⟩:=hcut
  cases kq with
  |zero=>exact absurd HA.out (by simp[impl_ValidLoads.j0])
  |succ cS=>
   have H:=HA.out;clear HA;simp only[impl_ValidLoads.j0]at H
   by_cases cA:aU=true
   ·subst cA;have H1:(some false)=some r:=by rw[if_pos rfl]at H;exact H
    clear H;have H:=H1;clear H1;obtain rfl:=Option.some.inj H;go_wp2;go_ret;exact⟨qE,qK1 HB.out aE.out⟩
   ·replace cA:=Bool.eq_false_iff.mpr cA;subst cA;have H1:(impl_ValidLoads.l0 cS l1 (l1.length:Int) 0)=some r:=by rw[if_neg (show¬(false=true) by decide)]at H;exact H
    clear H;have H:=H1;clear H1;have H':=A' H;clear H;go_wp2
    go_loopg [20] cS (fun kq dL w'=>∃(aB:Int),dL= .int .i64 aB∧Aside0 (impl_ValidLoads.l0 kq l1 (l1.length:Int) aB=some r)∧Aside0 (kq≤cS)∧Aside0 (w'.heap[aC]? =some (.cells #[(.slice aP aK.length aQ),(.slice aO aL.length aR)] 33 (0,0)))∧Aside0 (Below w.heap.size w w'))
    case atStart=>exact⟨(0),qS,H',⟨Nat.le_refl _⟩,⟨qB aA.out⟩,⟨qK1 HB.out aE.out⟩⟩
    case round=>
     clear H';try clear c1
     try clear p2
     try clear c4
     try clear c5
     try clear c6
     try clear cA
     try clear aT
     try clear aW
     try clear bE
     try clear bJ
     try clear bH
     try clear bG
     try clear aV
     try clear aX
     try clear bI
     try clear aZ
     try clear bL
     try clear bF
     try clear p2
     obtain⟨aB,rfl,HA,dA,aA,HB⟩:=hrel
     cases gk with
     |zero=>exact absurd HA.out (by simp[impl_ValidLoads.l0])
     |succ k2=>
      have H:=HA.out;clear HA;simp only[impl_ValidLoads.l0]at H
      by_cases c13:aB<(l1.length:Int)
      ·rw[if_pos c13]at H;have c13b0:decide (aB<(l1.length:Int))=true:=dT' c13;clear c13
       by_cases c14:0≤aB
       ·rw[if_pos c14]at H;have c14b0:decide (0≤aB)=true:=dT' c14;clear c14
        by_cases c15:aB<(l1.length:Int)
        ·rw[if_pos c15]at H;have c15b0:decide (aB<(l1.length:Int))=true:=dT' c15;clear c15;replace H:=Option.bind_eq_some_iff.mp H;obtain⟨bY,bZ,H⟩:=H;replace H:(if bY=true then((impl_within.f ((rd_T76 l1 aB).f1) (-100) 100).bind fun aY=>(if aY=true then(impl_ValidLoads.l0 k2 l1 (l1.length:Int) (wrap64 (aB+1)))else(some false)))else(some false))=some r:=H;have cP:=A' bZ;clear bZ
         by_cases cD:bY=true
         ·subst cD;have H1:((impl_within.f ((rd_T76 l1 aB).f1) (-100) 100).bind fun aY=>(if aY=true then(impl_ValidLoads.l0 k2 l1 (l1.length:Int) (wrap64 (aB+1)))else(some false)))=some r:=by rw[if_pos rfl]at H;exact H
          clear H;have H:=H1;clear H1;replace H:=Option.bind_eq_some_iff.mp H;obtain⟨aY,bX,H⟩:=H;replace H:(if aY=true then(impl_ValidLoads.l0 k2 l1 (l1.length:Int) (wrap64 (aB+1)))else(some false))=some r:=H;have dE:=A' bX;clear bX
          by_cases cO:aY=true
          ·subst cO;have H1:(impl_ValidLoads.l0 k2 l1 (l1.length:Int) (wrap64 (aB+1)))=some r:=by rw[if_pos rfl]at H;exact H
           clear H;have H:=H1;clear H1;have H':=A' H;clear H;have aM:0≤(aB:Int):=oD' qA;have aN:aB<(l1.length:Int):=oD' qA;obtain⟨bS,bK,aI,aH⟩:=at_T76 cQ.out aB aM aN
           cases bK
           try replace aI:=qC HB.out aI
           try replace aH:=qC HB.out aH
           replace aM:=eq_true aM;replace aN:=eq_true aN;go_wp2_with (first|((with_reducible refine gate_dst (N:=6) rfl ?_);(try(refine gate_guard (by rfl) ?_;dsimp only));refine box_event ?hg (N:=6) ?hd (cs:=#[.int .i64 0,.int .i64 0]) (t:=76) ?hr ?_;(case hd=>rfl);(case hg=>rfl);(case hr=>first|(go_simp;done)|(go_simp;rfl));intro aD hg cZ hbox hb;have n0_:=A' (O' (g:=aC) (qB aA.out) hb);have n1_:=A' (W' (qK1 HB.out aE.out) hb);have n2_:=A' (hbox);have n3_:=A' ((by rw[hg];exact(V' (qK1 HB.out aE.out)):w.heap.size≤aD));have n4_:=A' ((by rw[hg];exact(V' (qK1 HB.out aE.out)):w.heap.size≤aD));have n5_:=A' ((by rw[hg];exact Nat.ne_of_lt (bL' (g:=aC) (qB aA.out)):aC≠aD));have n6_:=A' ((by rw[hg];exact Nat.ne_of_gt (bL' (g:=aC) (qB aA.out)):aD≠aC));clear aA;clear HB;have aA:=n0_;have HB:=n1_;have aG:=n2_;have bN:=n3_;have aS:=n4_;have aF:=n5_;have aJ:=n6_;clear n0_ n1_ n2_ n3_ n4_ n5_ n6_;clear hb hbox hg;have cU:=aJ.out;have cX:=aF.out;have cB:cZ.cell? ⟨aD,0,none⟩=some (.int .i64 0):=(N' aG.out 0).trans rfl;have cE:cZ.cell? ⟨aD,1,none⟩=some (.int .i64 0):=(N' aG.out 1).trans rfl;have cJ:=Y' aG.out 0;have cC:=Y' aG.out 1)|((with_reducible refine gate_callee (f:=81) rfl ?_);refine goesL_ (some 26) rfl rfl Try.func81 (by kernel_rfl) rfl #[.int .i64 ((rd_T76 l1 aB).f0),.int .i64 (-100),.int .i64 100] rfl (by(try simp only[List.map_toArray,List.map_cons,List.map_nil]);first|done|rfl|(simp only[List.length_drop,List.length_take];rfl)) ?_;(with_reducible refine(impl_within.calls ((rd_T76 l1 aB).f0) (-100) 100 true _ cP.out).mono ?_);rintro e w' ⟨rfl,⟨nd,rfl⟩⟩;refine⟨_,rfl,?_⟩)|(go_at_call 81;(with_reducible refine(impl_within.calls ((rd_T76 l1 aB).f1) (-100) 100 true _ dE.out).mono ?_);rintro e w' ⟨rfl,⟨nd,rfl⟩⟩))
           go_roundg k2
           case measure=>have:=dC.out;have:=dA.out;omega
           case rel=>exact⟨(wrap64 (aB+1)),qS,H',⟨by have:=dC.out;have:=dA.out;omega⟩,⟨qG2 aA.out aF.out aF.out⟩,⟨qK2 HB.out aE.out aS.out⟩⟩
          ·replace cO:=Bool.eq_false_iff.mpr cO;subst cO;have H1:(some false)=some r:=by rw[if_neg (show¬(false=true) by decide)]at H;exact H
           clear H;have H:=H1;clear H1;obtain rfl:=Option.some.inj H;have aM:0≤(aB:Int):=oD' qA;have aN:aB<(l1.length:Int):=oD' qA;obtain⟨bS,bK,aI,aH⟩:=at_T76 cQ.out aB aM aN
           cases bK
           try replace aI:=qC HB.out aI
           try replace aH:=qC HB.out aH
           replace aM:=eq_true aM;replace aN:=eq_true aN;go_wp2_with (first|((with_reducible refine gate_dst (N:=6) rfl ?_);(try(refine gate_guard (by rfl) ?_;dsimp only));refine box_event ?hg (N:=6) ?hd (cs:=#[.int .i64 0,.int .i64 0]) (t:=76) ?hr ?_;(case hd=>rfl);(case hg=>rfl);(case hr=>first|(go_simp;done)|(go_simp;rfl));intro aD hg dF hbox hb;have n0_:=A' (O' (g:=aC) (qB aA.out) hb);have n1_:=A' (W' (qK1 HB.out aE.out) hb);have n2_:=A' (hbox);have n3_:=A' ((by rw[hg];exact(V' (qK1 HB.out aE.out)):w.heap.size≤aD));have n4_:=A' ((by rw[hg];exact(V' (qK1 HB.out aE.out)):w.heap.size≤aD));have n5_:=A' ((by rw[hg];exact Nat.ne_of_lt (bL' (g:=aC) (qB aA.out)):aC≠aD));have n6_:=A' ((by rw[hg];exact Nat.ne_of_gt (bL' (g:=aC) (qB aA.out)):aD≠aC));clear aA;clear HB;have aA:=n0_;have HB:=n1_;have aG:=n2_;have bN:=n3_;have aS:=n4_;have aF:=n5_;have aJ:=n6_;clear n0_ n1_ n2_ n3_ n4_ n5_ n6_;clear hb hbox hg;have dG:=aJ.out;have dH:=aF.out;have cL:dF.cell? ⟨aD,0,none⟩=some (.int .i64 0):=(N' aG.out 0).trans rfl;have cK:dF.cell? ⟨aD,1,none⟩=some (.int .i64 0):=(N' aG.out 1).trans rfl;have cG:=Y' aG.out 0;have cH:=Y' aG.out 1)|((with_reducible refine gate_callee (f:=81) rfl ?_);refine goesL_ (some 26) rfl rfl Try.func81 (by kernel_rfl) rfl #[.int .i64 ((rd_T76 l1 aB).f0),.int .i64 (-100),.int .i64 100] rfl (by(try simp only[List.map_toArray,List.map_cons,List.map_nil]);first|done|rfl|(simp only[List.length_drop,List.length_take];rfl)) ?_;(with_reducible refine(impl_within.calls ((rd_T76 l1 aB).f0) (-100) 100 true _ cP.out).mono ?_);rintro e w' ⟨rfl,⟨nd,rfl⟩⟩;refine⟨_,rfl,?_⟩)|(go_at_call 81;(with_reducible refine(impl_within.calls ((rd_T76 l1 aB).f1) (-100) 100 false _ dE.out).mono ?_);rintro e w' ⟨rfl,⟨nd,rfl⟩⟩));go_ret;exact⟨qE,qK2 HB.out aE.out aS.out⟩
         ·replace cD:=Bool.eq_false_iff.mpr cD;subst cD;have H1:(some false)=some r:=by rw[if_neg (show¬(false=true) by decide)]at H;exact H
          clear H;have H:=H1;clear H1;obtain rfl:=Option.some.inj H;have aM:0≤(aB:Int):=oD' qA;have aN:aB<(l1.length:Int):=oD' qA;obtain⟨bS,bK,aI,aH⟩:=at_T76 cQ.out aB aM aN
          cases bK
          try replace aI:=qC HB.out aI
          try replace aH:=qC HB.out aH
          replace aM:=eq_true aM;replace aN:=eq_true aN;go_wp2_with (first|((with_reducible refine gate_dst (N:=6) rfl ?_);(try(refine gate_guard (by rfl) ?_;dsimp only));refine box_event ?hg (N:=6) ?hd (cs:=#[.int .i64 0,.int .i64 0]) (t:=76) ?hr ?_;(case hd=>rfl);(case hg=>rfl);(case hr=>first|(go_simp;done)|(go_simp;rfl));intro aD hg dB hbox hb;have n0_:=A' (O' (g:=aC) (qB aA.out) hb);have n1_:=A' (W' (qK1 HB.out aE.out) hb);have n2_:=A' (hbox);have n3_:=A' ((by rw[hg];exact(V' (qK1 HB.out aE.out)):w.heap.size≤aD));have n4_:=A' ((by rw[hg];exact(V' (qK1 HB.out aE.out)):w.heap.size≤aD));have n5_:=A' ((by rw[hg];exact Nat.ne_of_lt (bL' (g:=aC) (qB aA.out)):aC≠aD));have n6_:=A' ((by rw[hg];exact Nat.ne_of_gt (bL' (g:=aC) (qB aA.out)):aD≠aC));clear aA;clear HB;have aA:=n0_;have HB:=n1_;have aG:=n2_;have bN:=n3_;have aS:=n4_;have aF:=n5_;have aJ:=n6_;clear n0_ n1_ n2_ n3_ n4_ n5_ n6_;clear hb hbox hg;have dD:=aJ.out;have cV:=aF.out;have cM:dB.cell? ⟨aD,0,none⟩=some (.int .i64 0):=(N' aG.out 0).trans rfl;have cN:dB.cell? ⟨aD,1,none⟩=some (.int .i64 0):=(N' aG.out 1).trans rfl;have cI:=Y' aG.out 0;have cF:=Y' aG.out 1)|((with_reducible refine gate_callee (f:=81) rfl ?_);refine goesL_ (some 26) rfl rfl Try.func81 (by kernel_rfl) rfl #[.int .i64 ((rd_T76 l1 aB).f0),.int .i64 (-100),.int .i64 100] rfl (by(try simp only[List.map_toArray,List.map_cons,List.map_nil]);first|done|rfl|(simp only[List.length_drop,List.length_take];rfl)) ?_;(with_reducible refine(impl_within.calls ((rd_T76 l1 aB).f0) (-100) 100 false _ cP.out).mono ?_);rintro e w' ⟨rfl,⟨nd,rfl⟩⟩;refine⟨_,rfl,?_⟩));go_ret;exact⟨qE,qK2 HB.out aE.out aS.out⟩
        ·rw[if_neg c15]at H;exact absurd H (by simp)
       ·rw[if_neg c14]at H;exact absurd H (by simp)
      ·rw[if_neg c13]at H;have c13b0:decide (aB<(l1.length:Int))=false:=dF' c13;clear c13;obtain rfl:=Option.some.inj H;go_wp2;go_ret;exact⟨qE,qK1 HB.out aE.out⟩
/-! ### slices_Index_int_int: function 109 -/
def slices_Index_int_int.l0:Nat→List Int→Int→Int→Int→Option (Int)
 |0,_,_,_,_=>none
 |k+1,x0,x1,x7,x8=>if x8<x7 then(if 0≤x8 then(if x8<(x0.length:Int)then(if x1=(rd x0 x8)then(some x8)else(slices_Index_int_int.l0 k x0 x1 x7 (wrap64 (x8+1))))else(none))else(none))else(some (-1))
def slices_Index_int_int.f (k:Nat) (l0:List Int) (a1:Int):Option (Int):=slices_Index_int_int.l0 k l0 a1 (l0.length:Int) 0
theorem slices_Index_int_int.mono_l: ∀k,(∀y0 y1 y2 y3,LeO (slices_Index_int_int.l0 k y0 y1 y2 y3) (slices_Index_int_int.l0 (k+1) y0 y1 y2 y3))
 |0=>fun _ _ _ _ r h=>by simp[slices_Index_int_int.l0]at h
 |k+1=>by
  have aA:=slices_Index_int_int.mono_l k
  ·intro y0 y1 y2 y3
   unfold slices_Index_int_int.l0
   repeat' first
   |(with_reducible exact aA _ _ _ _)
   |(with_reducible exact LeO.refl _)
   |(with_reducible exact LeO.none _)
   |(with_reducible refine LeO.ite ?_ ?_)
   |(with_reducible refine LeO.bind ?_ (fun _=>?_))
   |exact LeO.none _
   |refine LeO.ite ?_ ?_
   |refine LeO.bind ?_ (fun _=>?_)
theorem slices_Index_int_int.mono: ∀a0 a1 k,LeO (slices_Index_int_int.f k a0 a1) (slices_Index_int_int.f (k+1) a0 a1):=by
 intro a0 a1 k
 have aA:=slices_Index_int_int.mono_l k
 unfold slices_Index_int_int.f
 repeat' first
  |(with_reducible exact aA _ _ _ _)
  |(with_reducible exact LeO.refl _)
  |(with_reducible exact LeO.none _)
  |(with_reducible refine LeO.ite ?_ ?_)
  |(with_reducible refine LeO.bind ?_ (fun _=>?_))
  |exact LeO.none _
  |refine LeO.ite ?_ ?_
  |refine LeO.bind ?_ (fun _=>?_)
set_option maxHeartbeats 8000000 in
set_option maxRecDepth 100000 in
theorem slices_Index_int_int.calls (k:Nat) (A0:Option Addr) (c0:Nat) (l0:List Int) (a1:Int) (r:Int) (w:World) (aG:Kd.C (Kd.int .i64) w A0 l0.length l0) (aH:l0.length≤c0) (h:slices_Index_int_int.f k l0 a1=some r):
 Calls Try.prog 109 #[.slice A0 l0.length c0,.int .i64 a1] w fun e w'=>e= .returned (.int .i64 r)∧Drawn0 w w':=by
 have aJ:=A' aG;have aK:=A' aH;clear aG aH;have H:(slices_Index_int_int.l0 k l0 a1 (l0.length:Int) 0)=some r:=h;clear h;have H':=A' H;clear H;go_enter Try.func109,Try.ntmps109;go_wp2
 go_loopg [8] k (fun kq v8 w'=>∃(aA:Int),v8= .int .i64 aA∧Aside0 (slices_Index_int_int.l0 kq l0 a1 (l0.length:Int) aA=some r)∧Aside0 (kq≤k)∧Drawn0 w w')
 case atStart=>exact⟨(0),qS,H',⟨Nat.le_refl _⟩,by repeat(first|exact Drawn0.refl _|apply Drawn0.step)⟩
 case round=>
  clear H';try clear c1
  try clear p2
  obtain⟨aA,rfl,HA,aI,⟨m1,rfl⟩⟩:=hrel
  cases gk with
  |zero=>exact absurd HA.out (by simp[slices_Index_int_int.l0])
  |succ k1=>
   have H:=HA.out;clear HA;simp only[slices_Index_int_int.l0]at H
   by_cases c3:aA<(l0.length:Int)
   ·rw[if_pos c3]at H;have c3b0:decide (aA<(l0.length:Int))=true:=dT' c3;clear c3
    by_cases c4:0≤aA
    ·rw[if_pos c4]at H;have c4b0:decide (0≤aA)=true:=dT' c4;clear c4
     by_cases c5:aA<(l0.length:Int)
     ·rw[if_pos c5]at H;have c5b0:decide (aA<(l0.length:Int))=true:=dT' c5;clear c5
      by_cases c6:a1=(rd l0 aA)
      ·rw[if_pos c6]at H;have c6b0:(a1 == (rd l0 aA))=true:=beq_iff_eq.mpr c6;have c6b1:(a1 != (rd l0 aA))=false:=bne_eq_false_iff_eq.mpr c6;clear c6;obtain rfl:=Option.some.inj H;have aC:0≤(aA:Int):=oD' qA;have aB:aA<(l0.length:Int):=oD' qA;obtain⟨aF,aE,aD⟩:=Kd.at_int aJ.out aA aC aB
       cases aE
       replace aC:=eq_true aC;replace aB:=eq_true aB;go_wp2;go_ret;exact⟨by first|rfl|(simp;done)|(simp[*];done),by repeat(first|exact Drawn0.refl _|apply Drawn0.step)⟩
      ·rw[if_neg c6]at H;have c6b0:(a1 == (rd l0 aA))=false:=beq_eq_false_iff_ne.mpr c6;have c6b1:(a1 != (rd l0 aA))=true:=bne_iff_ne.mpr c6;have H':=A' H;clear H;have aC:0≤(aA:Int):=oD' qA;have aB:aA<(l0.length:Int):=oD' qA;obtain⟨aF,aE,aD⟩:=Kd.at_int aJ.out aA aC aB
       cases aE
       replace aC:=eq_true aC;replace aB:=eq_true aB;go_wp2
       go_roundg k1
       case measure=>have:=aI.out;omega
       case rel=>exact⟨(wrap64 (aA+1)),qS,H',⟨by have:=aI.out;omega⟩,by repeat(first|exact Drawn0.refl _|apply Drawn0.step)⟩
     ·rw[if_neg c5]at H;exact absurd H (by simp)
    ·rw[if_neg c4]at H;exact absurd H (by simp)
   ·rw[if_neg c3]at H;have c3b0:decide (aA<(l0.length:Int))=false:=dF' c3;clear c3;obtain rfl:=Option.some.inj H;go_wp2;go_ret;exact⟨by first|rfl|(simp;done)|(simp[*];done),by repeat(first|exact Drawn0.refl _|apply Drawn0.step)⟩
/-! ### slices_Contains_int_int: function 99 -/
def slices_Contains_int_int.f (k:Nat) (l0:List Int) (a1:Int):Option (Bool):=(slices_Index_int_int.f k l0 a1).bind fun aA=>(some (decide (aA≥0)))
theorem slices_Contains_int_int.mono: ∀a0 a1 k,LeO (slices_Contains_int_int.f k a0 a1) (slices_Contains_int_int.f (k+1) a0 a1):=by
 intro a0 a1 k
 unfold slices_Contains_int_int.f
 repeat' first
  |(with_reducible exact slices_Index_int_int.mono _ _ _)
  |(with_reducible exact LeO.refl _)
  |(with_reducible exact LeO.none _)
  |(with_reducible refine LeO.ite ?_ ?_)
  |(with_reducible refine LeO.bind ?_ (fun _=>?_))
  |exact LeO.none _
  |refine LeO.ite ?_ ?_
  |refine LeO.bind ?_ (fun _=>?_)
set_option maxHeartbeats 8000000 in
set_option maxRecDepth 100000 in
theorem slices_Contains_int_int.calls (k:Nat) (A0:Option Addr) (c0:Nat) (l0:List Int) (a1:Int) (r:Bool) (w:World) (aD:Kd.C (Kd.int .i64) w A0 l0.length l0) (aE:l0.length≤c0) (h:slices_Contains_int_int.f k l0 a1=some r):
 Calls Try.prog 99 #[.slice A0 l0.length c0,.int .i64 a1] w fun e w'=>e= .returned (.bool r)∧Drawn0 w w':=by
 have aH:=Aside0.mk aD
 have aG:=Aside0.mk aE
 clear aD aE
 have H:((slices_Index_int_int.f k l0 a1).bind fun aA=>(some (decide (aA≥0))))=some r:=h
 clear h
 replace H:=Option.bind_eq_some_iff.mp H
 obtain⟨aA,aF,H⟩:=H
 replace H:(some (decide (aA≥0)))=some r:=H
 have A3:=Aside0.mk aF
 clear aF
 obtain rfl:=Option.some.inj H
 go_enter Try.func99,Try.ntmps99
 go_wp2_with (first|((with_reducible refine gate_callee (f:=109) rfl ?_);refine goesL_ (some 7) rfl rfl Try.func109 (by kernel_rfl) rfl #[.slice A0 l0.length c0,.int .i64 a1] rfl (by(try simp only[List.map_toArray,List.map_cons,List.map_nil]);first|done|rfl|(simp only[List.length_drop,List.length_take];rfl)) ?_;(with_reducible refine(slices_Index_int_int.calls k _ _ l0 a1 aA _ ?aC ?aB A3.out).mono ?_);(case aC=>repeat(first|exact aH.out|(with_reducible refine Kd.C_alloc ?_ _)|(with_reducible refine Kd.C_drewN ?_ _)|(with_reducible refine Kd.C_drew ?_)));(case aB=>exact aG.out);rintro e w' ⟨rfl,⟨nd,rfl⟩⟩;refine⟨_,rfl,?_⟩))
 go_ret
 exact⟨by first|rfl|(simp;done)|(simp[*];done),by repeat(first|exact Drawn0.refl _|apply Drawn0.step)⟩
end Go.Proofs.Ytebbdadpgapobaa.HEl
