-- Written by a program for this claim (the functions that the statement reaches, and that the program's code comes to them).
import Derived.Test.YtifdihbndlmgpaaGreatDoorHWysx0
import Derived.Test.YtifdihbndlmgpaaGreatDoorHWysx2
import Derived.Test.YtifdihbndlmgpaaGreatDoorHWysx4
import Derived.Test.YtifdihbndlmgpaaGreatDoorHWysx5
namespace Go.Proofs.YtifdihbndlmgpaaGreatDoor.HWys
open Go.RowKit Go.Proofs.YtifdihbndlmgpaaGreatDoorW.PrintWords Go.Proofs.YtifdihbndlmgpaaGreatDoorW.PrintLast Go.Proofs.YtifdihbndlmgpaaGreatDoorW.PrintMore
attribute [local go_sem] max2_int min2_int max_two min_two max_three min_three max_four min_four
set_option linter.unusedVariables false
set_option linter.unusedSimpArgs false
/-! ### impl_partsOfWay: function 37 -/
def impl_partsOfWay.l0:Nat→List (S51)→List (List Int)→Int→Option ((List (List Int)))
 |0,_,_,_=>none
 |k+1,x0,x3,x4=>if x4<(x0.length:Int)then(if 2≤35184372088832 then((some (List.replicate 2 0:List Int)).bind fun aA=>(if 0≤(wrap64 (x4 - 1))then(if(wrap64 (x4 - 1))<(x0.length:Int)then(if 0≤((rd_T51 x0 (wrap64 (x4 - 1))).f0)then(if((rd_T51 x0 (wrap64 (x4 - 1))).f0)<(aA.length:Int)then(if 0≤x4 then(if 0≤((rd_T51 x0 x4).f0)then(if((rd_T51 x0 x4).f0)<(aA.length:Int)then(if x3.length<5864062014805 then(impl_partsOfWay.l0 k x0 (x3 ++ [((aA.set (((rd_T51 x0 (wrap64 (x4 - 1))).f0):Int).toNat ((rd_T51 x0 (wrap64 (x4 - 1))).f1)).set (((rd_T51 x0 x4).f0):Int).toNat ((rd_T51 x0 x4).f1))]) (wrap64 (x4+1)))else(none))else(none))else(none))else(none))else(none))else(none))else(none))else(none)))else(none))else(some x3)
def impl_partsOfWay.f (k:Nat) (l0:List (S51)):Option ((List (List Int))):=impl_partsOfWay.l0 k l0 (([]:List (List Int))) 1
theorem impl_partsOfWay.mono_l: ∀k,(∀y0 y1 y2,LeO (impl_partsOfWay.l0 k y0 y1 y2) (impl_partsOfWay.l0 (k+1) y0 y1 y2))
 |0=>fun _ _ _ r h=>by simp[impl_partsOfWay.l0]at h
 |k+1=>by
  have aA:=impl_partsOfWay.mono_l k
  ·intro y0 y1 y2
   unfold impl_partsOfWay.l0
   repeat' first
   |(with_reducible exact aA _ _ _)
   |(with_reducible exact LeO.refl _)
   |(with_reducible exact LeO.none _)
   |(with_reducible refine LeO.ite ?_ ?_)
   |(with_reducible refine LeO.bind ?_ (fun _=>?_))
   |exact LeO.none _
   |refine LeO.ite ?_ ?_
   |refine LeO.bind ?_ (fun _=>?_)
theorem impl_partsOfWay.mono: ∀a0 k,LeO (impl_partsOfWay.f k a0) (impl_partsOfWay.f (k+1) a0):=by
 intro a0 k
 have aA:=impl_partsOfWay.mono_l k
 unfold impl_partsOfWay.f
 repeat' first
   |(with_reducible exact aA _ _ _)
   |(with_reducible exact LeO.refl _)
   |(with_reducible exact LeO.none _)
   |(with_reducible refine LeO.ite ?_ ?_)
   |(with_reducible refine LeO.bind ?_ (fun _=>?_))
   |exact LeO.none _
   |refine LeO.ite ?_ ?_
   |refine LeO.bind ?_ (fun _=>?_)
def impl_partsOfWay.T6:Bool×List (List Nat×List Nat):=(true,[([],[]),([],[]),([],[]),([2],[2]),([1,3],[1,3]),([4],[4]),([5],[5]),([],[]),([],[]),([8],[8]),([7,9],[7,9]),([10],[10]),([11],[11]),([0,6,0,1,2,3,4,5,6,7,8,9,10,11,12],[0,6]),([13,12,0,1,2,3,4,5,6,7,8,9,10,11,12],[12,13])])
def impl_partsOfWay.B6:List Nat:=[0,0,0,4,14,30,62,0,0,256,896,1920,3968,8191,16383]
theorem impl_partsOfWay.tab6:rtab .any (opsOf Tryz.f37 6)=impl_partsOfWay.T6:=by kernel_rfl
theorem impl_partsOfWay.bits6:waitsOk impl_partsOfWay.T6.2 impl_partsOfWay.B6=true:=by kernel_rfl
def impl_partsOfWay.T7:Bool×List (List Nat×List Nat):=(true,[([],[]),([],[]),([],[]),([1,2],[1,2]),([3],[3]),([4],[4]),([],[]),([],[]),([6,7],[6,7]),([8],[8]),([9],[9]),([0,5,0,1,2,3,4,5,6,7,8,9,10],[0,5]),([11,10,0,1,2,3,4,5,6,7,8,9,10],[10,11])])
def impl_partsOfWay.B7:List Nat:=[0,0,0,6,14,30,0,0,192,448,960,2047,4095]
theorem impl_partsOfWay.tab7:rtab .any (opsOf Tryz.f37 7)=impl_partsOfWay.T7:=by kernel_rfl
theorem impl_partsOfWay.bits7:waitsOk impl_partsOfWay.T7.2 impl_partsOfWay.B7=true:=by kernel_rfl
@[reducible] def impl_partsOfWay.y':Bool:=true
@[reducible] def impl_partsOfWay.n':Bool:=false
theorem impl_partsOfWay.z1' {α:Type} (l:List α) (i:Nat) (a:α):l.toArray.setIfInBounds i a=(l.set i a).toArray:=List.setIfInBounds_toArray ..
theorem impl_partsOfWay.z2' {α:Type} (a b:α) (l:List α):(a :: l).set 0 b=b :: l:=rfl
theorem impl_partsOfWay.z3' {α:Type} (a b:α) (l:List α) (n:Nat):(a :: l).set (n+1) b=a :: l.set n b:=rfl
theorem impl_partsOfWay.G:type_of% @Aside0.mk:=@Aside0.mk
theorem impl_partsOfWay.J:type_of% @pw_below_drewN:=@pw_below_drewN
theorem impl_partsOfWay.L:type_of% @below_drew1:=@below_drew1
theorem impl_partsOfWay.M:type_of% @below_alloc:=@below_alloc
theorem qZ6_0 {p q:Prop} (h:q) (f:q→p:=by intro h_;repeat(first|(with_reducible first|exact h_|apply M|apply J|apply L)|exact h_)):p:=f h
theorem qZ6_1 {p q r0:Prop} (h:q) (g0:r0) (f:q→r0→p:=by intro h_ g0_;repeat(first|(with_reducible first|exact h_|apply M|apply J|apply L|refine below_set ?_ g0_)|exact h_)):p:=f h g0
set_option maxHeartbeats 8000000 in
set_option maxRecDepth 100000 in
theorem impl_partsOfWay.calls (k:Nat) (A0:Option Addr) (c0:Nat) (l0:List (S51)) (r:List (List Int)) (w:World) (dI:Kd.C k51 w A0 l0.length l0) (dH:l0.length≤c0) (h:impl_partsOfWay.f k l0=some r):
  Calls Tryz.prog 37 #[.slice A0 l0.length c0] w fun e w'=>∃v0_:Value,e= .returned (v0_)∧Kd.S (Kd.slice 2 (Kd.int .i64)) 62 w' w.heap.size (fun _=>True) v0_ r∧Below w.heap.size w w':=by
 have cW:=G dI;have dR:=G dH;clear dI dH;have HB:=G (Below.refl w.heap.size w);have H:(impl_partsOfWay.l0 k l0 (([]:List (List Int))) 1)=some r:=h;clear h;obtain⟨cH,aY⟩: ∃y_:List (List Int),y_=(([]:List (List Int))):=⟨_,rfl⟩
 replace H:(impl_partsOfWay.l0 k l0 cH 1)=some r:=by first|(rw[aY];with_reducible exact H)|(have H2_:=(Option.bind_some _ _).symm.trans H;rw[aY];with_reducible exact H2_)|(have H2_:=(Option.bind_some _ _).symm.trans H;with_reducible exact H2_)|with_reducible exact H|(rw[aY];exact H)|exact H
 have bM:=G aY;clear aY;have H':=G H;clear H;go_enter Tryz.func37,Tryz.ntmps37;go_wp2_with (first|((with_reducible refine gate_dst (N:=6) rfl ?_);refine Kd.S_lit (Kd.slice 2 (Kd.int .i64)) _ 62 ?hg (N:=6) ?hd (xs:=([]:List (List Int))) (inner:=[]) (ok:=fun _=>True) (okp:=fun _=>True) ?hr ?hp (fun _ hk=>hk) trivial (Below.refl _ _) (Nat.le_refl _) (by simp) ?_;(case hd=>rfl);(case hg=>rfl);(case hr=>first|(go_simp;done)|(go_simp;rfl));(case hp=>exact(Reps.none _ _));intro dN w2 cK hb hg_ hnew_;clear hg_ hnew_;(first|rw[← bM.out]at cK|(simp only[Int.reduceToNat]at cK;rw[← bM.out]at cK));have n0_:=G (Kd.S_lower cK (below_size (qZ6_0 HB.out)));have n1_:=G (below_step (qZ6_0 HB.out) hb);clear HB;have cM:=n0_;have HB:=n1_;clear n0_ n1_;clear hb cK))
 go_loopg [3,4] k (fun kq v3 v4 w'=>∃(aI:List (List Int)) (aA:Int),v4= .int .i64 aA∧Aside0 (impl_partsOfWay.l0 kq l0 aI aA=some r)∧Aside0 (kq≤k)∧Aside0 (Kd.S (Kd.slice 2 (Kd.int .i64)) 62 w' w.heap.size (fun _=>True) v3 aI)∧Aside0 (Below w.heap.size w w'))
 case atStart=>exact⟨(cH),(1),(by first|rfl|(simp;done)|(simp[*];done)),H',⟨Nat.le_refl _⟩,⟨by(with_reducible repeat(first|apply Kd.S_alloc|apply Kd.S_drewN|apply Kd.S_drew));exact cM.out⟩,⟨qZ6_0 HB.out⟩⟩
 case round=>
  clear H';try clear p2
  try clear c3
  obtain⟨aI,aA,rfl,HA,dJ,HO_3,HB⟩:=hrel
  cases gk with
  |zero=>exact absurd HA.out (by simp[impl_partsOfWay.l0])
  |succ k1=>
   have H:=HA.out;clear HA;simp only[impl_partsOfWay.l0]at H
   by_cases c4:aA<(l0.length:Int)
   ·rw[if_pos c4]at H;have c4b0:decide (aA<(l0.length:Int))=true:=decide_eq_true c4;clear c4
    by_cases c5:2≤35184372088832
    ·rw[if_pos c5]at H;have c5b0:=eq_true c5;have c5b1:decide (2≤35184372088832)=true:=decide_eq_true c5;clear c5;obtain⟨aG,aV⟩: ∃y_:List Int,y_=(List.replicate 2 0):=⟨_,rfl⟩
     replace H:(if 0≤(wrap64 (aA - 1))then(if(wrap64 (aA - 1))<(l0.length:Int)then(if 0≤((rd_T51 l0 (wrap64 (aA - 1))).f0)then(if((rd_T51 l0 (wrap64 (aA - 1))).f0)<(aG.length:Int)then(if 0≤aA then(if 0≤((rd_T51 l0 aA).f0)then(if((rd_T51 l0 aA).f0)<(aG.length:Int)then(if aI.length<5864062014805 then(impl_partsOfWay.l0 k1 l0 (aI ++ [((aG.set (((rd_T51 l0 (wrap64 (aA - 1))).f0):Int).toNat ((rd_T51 l0 (wrap64 (aA - 1))).f1)).set (((rd_T51 l0 aA).f0):Int).toNat ((rd_T51 l0 aA).f1))]) (wrap64 (aA+1)))else(none))else(none))else(none))else(none))else(none))else(none))else(none))else(none))=some r:=by first|(rw[aV];with_reducible exact H)|(have H2_:=(Option.bind_some _ _).symm.trans H;rw[aV];with_reducible exact H2_)|(have H2_:=(Option.bind_some _ _).symm.trans H;with_reducible exact H2_)|with_reducible exact H|(rw[aV];exact H)|exact H
     have bL:=G aV;clear aV;obtain⟨aD,bX⟩: ∃j_:Int,(wrap64 (aA - 1))=j_:=⟨_,rfl⟩
     replace H:(if 0≤(aD)then(if(aD)<(l0.length:Int)then(if 0≤((rd_T51 l0 (aD)).f0)then(if((rd_T51 l0 (aD)).f0)<(aG.length:Int)then(if 0≤aA then(if 0≤((rd_T51 l0 aA).f0)then(if((rd_T51 l0 aA).f0)<(aG.length:Int)then(if aI.length<5864062014805 then(impl_partsOfWay.l0 k1 l0 (aI ++ [((aG.set (((rd_T51 l0 (aD)).f0):Int).toNat ((rd_T51 l0 (aD)).f1)).set (((rd_T51 l0 aA).f0):Int).toNat ((rd_T51 l0 aA).f1))]) (wrap64 (aA+1)))else(none))else(none))else(none))else(none))else(none))else(none))else(none))else(none))=some r:=by first|(rw[bX]at H;exact H)|(simp only[bX]at H ⊢;exact H)
     have hji6w:(IntKind.i64.wrap (aA - 1))=aD:=(i64_w _).trans bX
     by_cases c7:0≤(aD)
     ·rw[if_pos c7]at H;have c7b0:decide (0≤(aD))=true:=decide_eq_true c7;clear c7
      by_cases c8:(aD)<(l0.length:Int)
      ·rw[if_pos c8]at H;have c8b0:decide ((aD)<(l0.length:Int))=true:=decide_eq_true c8;clear c8
       by_cases c9:0≤((rd_T51 l0 (aD)).f0)
       ·rw[if_pos c9]at H;have c9b0:decide (0≤((rd_T51 l0 (aD)).f0))=true:=decide_eq_true c9;clear c9
        by_cases c10:((rd_T51 l0 (aD)).f0)<(aG.length:Int)
        ·rw[if_pos c10]at H;have c10b0:decide (((rd_T51 l0 (aD)).f0)<(aG.length:Int))=true:=decide_eq_true c10;clear c10;obtain⟨cA,aW⟩: ∃y_:List Int,y_=(aG.set (((rd_T51 l0 (aD)).f0):Int).toNat ((rd_T51 l0 (aD)).f1)):=⟨_,rfl⟩
         replace H:(if 0≤aA then(if 0≤((rd_T51 l0 aA).f0)then(if((rd_T51 l0 aA).f0)<(aG.length:Int)then(if aI.length<5864062014805 then(impl_partsOfWay.l0 k1 l0 (aI ++ [(cA.set (((rd_T51 l0 aA).f0):Int).toNat ((rd_T51 l0 aA).f1))]) (wrap64 (aA+1)))else(none))else(none))else(none))else(none))=some r:=by first|(rw[aW];with_reducible exact H)|(have H2_:=(Option.bind_some _ _).symm.trans H;rw[aW];with_reducible exact H2_)|(have H2_:=(Option.bind_some _ _).symm.trans H;with_reducible exact H2_)|with_reducible exact H|(rw[aW];exact H)|exact H
         have cF:=G aW;clear aW
         by_cases c12:0≤aA
         ·rw[if_pos c12]at H;have c12b0:decide (0≤aA)=true:=decide_eq_true c12;clear c12
          by_cases c13:0≤((rd_T51 l0 aA).f0)
          ·rw[if_pos c13]at H;have c13b0:decide (0≤((rd_T51 l0 aA).f0))=true:=decide_eq_true c13;clear c13
           by_cases c14:((rd_T51 l0 aA).f0)<(aG.length:Int)
           ·rw[if_pos c14]at H;have c14b0:decide (((rd_T51 l0 aA).f0)<(aG.length:Int))=true:=decide_eq_true c14;clear c14;obtain⟨bK,aZ⟩: ∃y_:List Int,y_=(cA.set (((rd_T51 l0 aA).f0):Int).toNat ((rd_T51 l0 aA).f1)):=⟨_,rfl⟩
            replace H:(if aI.length<5864062014805 then(impl_partsOfWay.l0 k1 l0 (aI ++ [bK]) (wrap64 (aA+1)))else(none))=some r:=by first|(rw[aZ];with_reducible exact H)|(have H2_:=(Option.bind_some _ _).symm.trans H;rw[aZ];with_reducible exact H2_)|(have H2_:=(Option.bind_some _ _).symm.trans H;with_reducible exact H2_)|with_reducible exact H|(rw[aZ];exact H)|exact H
            have cG:=G aZ;clear aZ
            by_cases c16:aI.length<5864062014805
            ·rw[if_pos c16]at H;have cP:=G c16;clear c16;obtain⟨cT,aX⟩: ∃y_:List (List Int),y_=(aI ++ [bK]):=⟨_,rfl⟩
             replace H:(impl_partsOfWay.l0 k1 l0 cT (wrap64 (aA+1)))=some r:=by first|(rw[aX];with_reducible exact H)|(have H2_:=(Option.bind_some _ _).symm.trans H;rw[aX];with_reducible exact H2_)|(have H2_:=(Option.bind_some _ _).symm.trans H;with_reducible exact H2_)|with_reducible exact H|(rw[aX];exact H)|exact H
             have cS:=G aX;clear aX;have H':=G H;clear H;try go_wp2_with (first|((with_reducible refine gate_dst (N:=13) rfl ?_);refine Kd.R_make (Kd.int .i64) _ 2 rfl (N:=13) rfl 62 _ _ rfl 2 rfl rfl Tryz.underlying62 (.int .i64 0) 8 info2 rfl (by decide) (by omega) 0 (ok:=fun _=>True) (okp:=fun _=>True) rfl (fun _ hk=>hk) trivial (by omega) (by omega) (Below.refl _ _) (Nat.le_refl _) ?_;intro dO dP bJ hb hg_ hnew_;clear hg_ hnew_;(first|rw[← bL.out]at bJ|(simp only[Int.reduceToNat]at bJ;rw[← bL.out]at bJ));have n0_:=G (Kd.S_elder' (by(with_reducible repeat(first|apply Kd.S_alloc|apply Kd.S_drewN|apply Kd.S_drew));exact HO_3.out) (Kd.R_base bJ) hb);have n1_:=G (Kd.R_lower bJ (below_size (qZ6_0 HB.out)));have n2_:=G (below_step (qZ6_0 HB.out) hb);clear HO_3;clear HB;have HO_3:=n0_;have aC:=n1_;have HB:=n2_;clear n0_ n1_ n2_;clear hb bJ))
             have n0_:=G (Kd.S_drew HO_3.out);have n1_:=G (Kd.R_drew aC.out);have n2_:=G (L HB.out);clear HO_3;clear aC;clear HB;have HO_3:=n0_;have aC:=n1_;have HB:=n2_;clear n0_ n1_ n2_;have bO:0≤((aD):Int):=of_decide_eq_true (by first|(with_reducible assumption)|assumption);have bN:(aD)<(l0.length:Int):=of_decide_eq_true (by first|(with_reducible assumption)|assumption);obtain⟨aE,dB,aJ,aN⟩:=at_T51 cW.out (aD) bO bN;have bC:=aN;have bE:=aJ
             cases dB
             (first|(replace aJ:=(HB.out.cell (World.block_lt_of_cell? w _ aJ)).trans aJ)|skip);(first|(replace aN:=(HB.out.cell (World.block_lt_of_cell? w _ aN)).trans aN)|skip);replace bO:=eq_true bO;replace bN:=eq_true bN;have cE:0≤((aD):Int):=of_decide_eq_true (by first|(with_reducible assumption)|assumption);have bY:(aD)<(l0.length:Int):=of_decide_eq_true (by first|(with_reducible assumption)|assumption);obtain⟨cR,dD,aT,aK⟩:=at_T51 cW.out (aD) cE bY;have bD:=aK;have bB:=aT;obtain rfl:aE=cR:=(by injection dD)
             (first|(replace aT:=(HB.out.cell (World.block_lt_of_cell? w _ aT)).trans aT)|skip);(first|(replace aK:=(HB.out.cell (World.block_lt_of_cell? w _ aK)).trans aK)|skip);replace cE:=eq_true cE;replace bY:=eq_true bY;have cX:0≤(((rd_T51 l0 (aD)).f0):Int):=of_decide_eq_true (by first|(with_reducible assumption)|assumption);have dG:(((rd_T51 l0 (aD)).f0):Int)<((aG.length:Int):Int):=of_decide_eq_true (by first|(with_reducible assumption)|assumption);obtain⟨aH,bI,cU,cJ,cY,dK,cV⟩:=Kd.R_form aC.out (by omega);(first|cases cU|(injection cU with ea_ en_ ec_;(first|subst ea_|(injection ea_ with ea_;subst ea_));subst ec_;clear en_));have cO:=G cJ;have dF:=G cV;clear cJ cY cV;obtain⟨bW,bS⟩:=Kd.R_celln 0 aC.out (((rd_T51 l0 (aD)).f0):Int) cX dG;replace cX:=eq_true cX;replace dG:=eq_true dG;have bV:=Kd.R_putn aC.out (((rd_T51 l0 (aD)).f0):Int) ((rd_T51 l0 (aD)).f1);rw[← cF.out]at bV;have bU:=G bV;clear bV;refine start_ (n:=15) (S:=fun w'=>w'.cell? (aE.add (((aD)).toNat*2))=some (.int .i64 ((rd_T51 l0 (aD)).f0))∧w'.cell? ⟨(aE.add (((aD)).toNat*2)).block,(aE.add (((aD)).toNat*2)).off+1,none⟩=some (.int .i64 ((rd_T51 l0 (aD)).f1))∧w'.cell? (aE.add (((aD)).toNat*2))=some (.int .i64 ((rd_T51 l0 (aD)).f0))∧w'.cell? ⟨(aE.add (((aD)).toNat*2)).block,(aE.add (((aD)).toNat*2)).off+1,none⟩=some (.int .i64 ((rd_T51 l0 (aD)).f1))) (ds:=[14]) #[n',n',n',n',n',n',n',n',n',n',n',n',n',n',n'] (by kernel_rfl) rfl rfl ⟨((HB.out.cell (World.block_lt_of_cell? w _ bE)).trans bE),((HB.out.cell (World.block_lt_of_cell? w _ bC)).trans bC),((HB.out.cell (World.block_lt_of_cell? w _ bB)).trans bB),((HB.out.cell (World.block_lt_of_cell? w _ bD)).trans bD)⟩ (fun hHeld=>?_);refine with_tabW impl_partsOfWay.tab6 impl_partsOfWay.bits6 (fun HT_ HW_=>?_)
             generalize dP.drew=w19 at HO_3 aC HB dF bU bS bW aJ aN aT aK hHeld ⊢
             refine pure_ (i:=0) (N:=some 14) (v:=?_) (a':=?_) #[y',n',n',n',n',n',n',n',n',n',n',n',n',n',n'] rfl rfl (any_of HT_.out (by kernel_rfl)) (fun _ _ _ h=>h) (Or.inl ⟨by rfl,?_⟩) ?_ ?_;rotate_left
             ·intro w';go_simp;with_reducible rfl
             rotate_left
             ·simp only[Act.put,z1',z2',z3',i64_w,i32_w]
              rfl
             refine pure_ (i:=1) (N:=some 15) (v:=?_) (a':=?_) #[y',y',n',n',n',n',n',n',n',n',n',n',n',n',n'] rfl rfl (any_of HT_.out (by kernel_rfl)) (fun _ _ _ h=>h) (Or.inl ⟨by rfl,?_⟩) ?_ ?_;rotate_left
             ·intro w';go_simp;with_reducible rfl
             rotate_left
             ·simp only[Act.put,z1',z2',z3',i64_w,i32_w]
              rfl
             refine pure_ (i:=2) (N:=some 16) (v:=?_) (a':=?_) #[y',y',y',n',n',n',n',n',n',n',n',n',n',n',n'] rfl rfl (any_of HT_.out (by kernel_rfl)) (fun _ _ _ h=>h) (Or.inl ⟨by rfl,?_⟩) ?_ ?_;rotate_left
             ·intro w';go_simp;with_reducible rfl
             rotate_left
             ·simp only[Act.put,z1',z2',z3',i64_w,i32_w]
              rfl
             refine pure_ (i:=3) (N:=some 17) (v:=?_) (a':=?_) #[y',y',y',y',n',n',n',n',n',n',n',n',n',n',n'] rfl rfl (any_of HT_.out (by kernel_rfl)) (fun _ _ _ h=>h) (Or.inl ⟨by rfl,?_⟩) ?_ ?_;rotate_left
             ·intro w';go_simp;with_reducible rfl
             rotate_left
             ·simp only[Act.put,z1',z2',z3',i64_w,i32_w]
              rfl
             refine pure_ (i:=4) (N:=some 18) (v:=?_) (a':=?_) #[y',y',y',y',y',n',n',n',n',n',n',n',n',n',n'] rfl rfl (any_of HT_.out (by kernel_rfl)) (fun _ _ _ h=>h) (Or.inl ⟨by rfl,?_⟩) ?_ ?_;rotate_left
             ·intro w';go_simp;with_reducible rfl
             rotate_left
             ·simp only[Act.put,z1',z2',z3',i64_w,i32_w]
              rfl
             refine pure_ (i:=5) (N:=some 19) (v:=?_) (a':=?_) #[y',y',y',y',y',y',n',n',n',n',n',n',n',n',n'] rfl rfl (any_of HT_.out (by kernel_rfl)) (fun _ _ _ h=>h) (Or.inl ⟨by rfl,?_⟩) ?_ ?_;rotate_left
             ·intro w';go_simp;with_reducible rfl
             rotate_left
             ·simp only[Act.put,z1',z2',z3',i64_w,i32_w]
              rfl
             refine pure_ (i:=7) (N:=some 21) (v:=?_) (a':=?_) #[y',y',y',y',y',y',n',y',n',n',n',n',n',n',n'] rfl rfl (any_of HT_.out (by kernel_rfl)) (fun _ _ _ h=>h) (Or.inl ⟨by rfl,?_⟩) ?_ ?_;rotate_left
             ·intro w';go_simp;with_reducible rfl
             rotate_left
             ·simp only[Act.put,z1',z2',z3',i64_w,i32_w]
              rfl
             refine pure_ (i:=8) (N:=some 22) (v:=?_) (a':=?_) #[y',y',y',y',y',y',n',y',y',n',n',n',n',n',n'] rfl rfl (any_of HT_.out (by kernel_rfl)) (fun _ _ _ h=>h) (Or.inl ⟨by rfl,?_⟩) ?_ ?_;rotate_left
             ·intro w';go_simp;with_reducible rfl
             rotate_left
             ·simp only[Act.put,z1',z2',z3',i64_w,i32_w]
              rfl
             refine pure_ (i:=9) (N:=some 23) (v:=?_) (a':=?_) #[y',y',y',y',y',y',n',y',y',y',n',n',n',n',n'] rfl rfl (any_of HT_.out (by kernel_rfl)) (fun _ _ _ h=>h) (Or.inl ⟨by rfl,?_⟩) ?_ ?_;rotate_left
             ·intro w';go_simp;with_reducible rfl
             rotate_left
             ·simp only[Act.put,z1',z2',z3',i64_w,i32_w]
              rfl
             refine pure_ (i:=10) (N:=some 24) (v:=?_) (a':=?_) #[y',y',y',y',y',y',n',y',y',y',y',n',n',n',n'] rfl rfl (any_of HT_.out (by kernel_rfl)) (fun _ _ _ h=>h) (Or.inl ⟨by rfl,?_⟩) ?_ ?_;rotate_left
             ·intro w';go_simp;with_reducible rfl
             rotate_left
             ·simp only[Act.put,z1',z2',z3',i64_w,i32_w]
              rfl
             refine pure_ (i:=11) (N:=some 25) (v:=?_) (a':=?_) #[y',y',y',y',y',y',n',y',y',y',y',y',n',n',n'] rfl rfl (any_of HT_.out (by kernel_rfl)) (fun _ _ _ h=>h) (Or.inl ⟨by rfl,?_⟩) ?_ ?_;rotate_left
             ·intro w';go_simp;with_reducible rfl
             rotate_left
             ·simp only[Act.put,z1',z2',z3',i64_w,i32_w]
              rfl
             refine take_ (i:=6) (N:=some 20) (v:=?_) (a':=?_) #[y',y',y',y',y',y',y',y',y',y',y',y',n',n',n'] rfl rfl (take_ofW HT_.out HW_.out (by kernel_rfl)) (fun _ _ _ h=>h) (Or.inl ⟨by rfl,?_⟩) hHeld ?_ ?_;rotate_left
             ·rintro w' ⟨s0,s1,s2,s3⟩;go_simp;with_reducible rfl
             rotate_left
             ·simp only[Act.put,z1',z2',z3',i64_w,i32_w]
              rfl
             refine take_ (i:=12) (N:=some 26) (v:=?_) (a':=?_) #[y',y',y',y',y',y',y',y',y',y',y',y',y',n',n'] rfl rfl (take_ofW HT_.out HW_.out (by kernel_rfl)) (fun _ _ _ h=>h) (Or.inl ⟨by rfl,?_⟩) hHeld ?_ ?_;rotate_left
             ·rintro w' ⟨s0,s1,s2,s3⟩;go_simp;with_reducible rfl
             rotate_left
             ·simp only[Act.put,z1',z2',z3',i64_w,i32_w]
              rfl
             refine pure_ (i:=13) (N:=some 27) (v:=?_) (a':=?_) #[y',y',y',y',y',y',y',y',y',y',y',y',y',y',n'] rfl rfl (any_of HT_.out (by kernel_rfl)) (fun _ _ _ h=>h) (Or.inl ⟨by rfl,?_⟩) ?_ ?_;rotate_left
             ·intro w';go_simp;with_reducible rfl
             rotate_left
             ·simp only[Act.put,z1',z2',z3',i64_w,i32_w]
              rfl
             refine last_ (i:=14) (N:=none) #[y',y',y',y',y',y',y',y',y',y',y',y',y',y',y'] rfl rfl (one_of HT_.out (by kernel_rfl)) (by decide) (fun K hK=>?_);refine skip_ (w1:=?_) (by rfl) rfl ?_ ?_;rotate_left
             ·go_simp
              rfl
             refine hK.out _ _ ?_;clear hK K;refine done_ (done_of HT_.out (by kernel_rfl)) ?_;try go_wp2
             have n0_:Aside0 (Kd.S (Kd.slice 2 (Kd.int .i64)) 62 (w19.setCell ⟨aH,(((rd_T51 l0 (aD)).f0):Int).toNat,none⟩ (.int .i64 ((rd_T51 l0 (aD)).f1))) w.heap.size (fun k_=>some k_≠(.slice (some ⟨aH,0,none⟩) aG.length bI:Value).ownBlock) u3 aI):=⟨by(with_reducible repeat(first|apply Kd.S_alloc|apply Kd.S_drewN|apply Kd.S_drew));exact Kd.S_mono (Kd.S_far (p:=⟨aH,(((rd_T51 l0 (aD)).f0):Int).toNat,none⟩) (Kd.S_mono HO_3.out (fun k_ hk=>(⟨hk,fun e_=>hk.2 (by rw[e_];rfl)⟩:_∧k_≠aH))) (fun _ hk=>hk.2) (.int .i64 ((rd_T51 l0 (aD)).f1))) (fun _ hk=>hk.1.2)⟩
             have n1_:Aside0 (Kd.R (Kd.int .i64) 2 (w19.setCell ⟨aH,(((rd_T51 l0 (aD)).f0):Int).toNat,none⟩ (.int .i64 ((rd_T51 l0 (aD)).f1))) w.heap.size (fun _=>True) (.slice (some ⟨aH,0,none⟩) aG.length bI) cA):=⟨by(with_reducible repeat(first|apply Kd.R_alloc|apply Kd.R_drewN|apply Kd.R_drew));exact bU.out⟩
             have n2_:Aside0 (Below w.heap.size w (w19.setCell ⟨aH,(((rd_T51 l0 (aD)).f0):Int).toNat,none⟩ (.int .i64 ((rd_T51 l0 (aD)).f1)))):=⟨qZ6_1 HB.out cO.out⟩
             (try clear HO_3);(try clear aC);(try clear HB)
             generalize (w19.setCell ⟨aH,(((rd_T51 l0 (aD)).f0):Int).toNat,none⟩ (.int .i64 ((rd_T51 l0 (aD)).f1)))=dM at n0_ n1_ n2_ ⊢
             have HO_3:=n0_;have aC:=n1_;have HB:=n2_;clear n0_ n1_ n2_;have n0_:=G (Kd.S_drew HO_3.out);have n1_:=G (Kd.R_drew aC.out);have n2_:=G (L HB.out);clear HO_3;clear aC;clear HB;have HO_3:=n0_;have aC:=n1_;have HB:=n2_;clear n0_ n1_ n2_;have bT:0≤(aA:Int):=of_decide_eq_true (by first|(with_reducible assumption)|assumption);have cD:aA<(l0.length:Int):=of_decide_eq_true (by first|(with_reducible assumption)|assumption);obtain⟨cL,dC,aR,aQ⟩:=at_T51 cW.out aA bT cD;have bA:=aQ;have bH:=aR;obtain rfl:aE=cL:=(by injection dC)
             (first|(replace aR:=(HB.out.cell (World.block_lt_of_cell? w _ aR)).trans aR)|skip);(first|(replace aQ:=(HB.out.cell (World.block_lt_of_cell? w _ aQ)).trans aQ)|skip);replace bT:=eq_true bT;replace cD:=eq_true cD;have bZ:0≤(aA:Int):=of_decide_eq_true (by first|(with_reducible assumption)|assumption);have bQ:aA<(l0.length:Int):=of_decide_eq_true (by first|(with_reducible assumption)|assumption);obtain⟨cN,dE,aU,aM⟩:=at_T51 cW.out aA bZ bQ;have bF:=aM;have bG:=aU;obtain rfl:aE=cN:=(by injection dE)
             (first|(replace aU:=(HB.out.cell (World.block_lt_of_cell? w _ aU)).trans aU)|skip);(first|(replace aM:=(HB.out.cell (World.block_lt_of_cell? w _ aM)).trans aM)|skip);replace bZ:=eq_true bZ;replace bQ:=eq_true bQ;have cZ:0≤(((rd_T51 l0 aA).f0):Int):=of_decide_eq_true (by first|(with_reducible assumption)|assumption);have dA:(((rd_T51 l0 aA).f0):Int)<((aG.length:Int):Int):=of_decide_eq_true (by first|(with_reducible assumption)|assumption);obtain⟨cC,bP⟩:=Kd.R_celln 0 aC.out (((rd_T51 l0 aA).f0):Int) cZ dA;replace cZ:=eq_true cZ;replace dA:=eq_true dA;have bR:=Kd.R_putn aC.out (((rd_T51 l0 aA).f0):Int) ((rd_T51 l0 aA).f1);rw[← cG.out]at bR;have cI:=G bR;clear bR;refine start_ (n:=13) (S:=fun w'=>w'.cell? (aE.add ((aA).toNat*2))=some (.int .i64 ((rd_T51 l0 aA).f0))∧w'.cell? ⟨(aE.add ((aA).toNat*2)).block,(aE.add ((aA).toNat*2)).off+1,none⟩=some (.int .i64 ((rd_T51 l0 aA).f1))∧w'.cell? (aE.add ((aA).toNat*2))=some (.int .i64 ((rd_T51 l0 aA).f0))∧w'.cell? ⟨(aE.add ((aA).toNat*2)).block,(aE.add ((aA).toNat*2)).off+1,none⟩=some (.int .i64 ((rd_T51 l0 aA).f1))) (ds:=[12]) #[n',n',n',n',n',n',n',n',n',n',n',n',n'] (by kernel_rfl) rfl rfl ⟨((HB.out.cell (World.block_lt_of_cell? w _ bH)).trans bH),((HB.out.cell (World.block_lt_of_cell? w _ bA)).trans bA),((HB.out.cell (World.block_lt_of_cell? w _ bG)).trans bG),((HB.out.cell (World.block_lt_of_cell? w _ bF)).trans bF)⟩ (fun hHeld=>?_);refine with_tabW impl_partsOfWay.tab7 impl_partsOfWay.bits7 (fun HT_ HW_=>?_)
             generalize dM.drew=w22 at HO_3 aC HB bU cI bP cC aR aQ aU aM hHeld ⊢
             refine pure_ (i:=0) (N:=some 28) (v:=?_) (a':=?_) #[y',n',n',n',n',n',n',n',n',n',n',n',n'] rfl rfl (any_of HT_.out (by kernel_rfl)) (fun _ _ _ h=>h) (Or.inl ⟨by rfl,?_⟩) ?_ ?_;rotate_left
             ·intro w';go_simp;with_reducible rfl
             rotate_left
             ·simp only[Act.put,z1',z2',z3',i64_w,i32_w]
              rfl
             refine pure_ (i:=1) (N:=some 29) (v:=?_) (a':=?_) #[y',y',n',n',n',n',n',n',n',n',n',n',n'] rfl rfl (any_of HT_.out (by kernel_rfl)) (fun _ _ _ h=>h) (Or.inl ⟨by rfl,?_⟩) ?_ ?_;rotate_left
             ·intro w';go_simp;with_reducible rfl
             rotate_left
             ·simp only[Act.put,z1',z2',z3',i64_w,i32_w]
              rfl
             refine pure_ (i:=2) (N:=some 30) (v:=?_) (a':=?_) #[y',y',y',n',n',n',n',n',n',n',n',n',n'] rfl rfl (any_of HT_.out (by kernel_rfl)) (fun _ _ _ h=>h) (Or.inl ⟨by rfl,?_⟩) ?_ ?_;rotate_left
             ·intro w';go_simp;with_reducible rfl
             rotate_left
             ·simp only[Act.put,z1',z2',z3',i64_w,i32_w]
              rfl
             refine pure_ (i:=3) (N:=some 31) (v:=?_) (a':=?_) #[y',y',y',y',n',n',n',n',n',n',n',n',n'] rfl rfl (any_of HT_.out (by kernel_rfl)) (fun _ _ _ h=>h) (Or.inl ⟨by rfl,?_⟩) ?_ ?_;rotate_left
             ·intro w';go_simp;with_reducible rfl
             rotate_left
             ·simp only[Act.put,z1',z2',z3',i64_w,i32_w]
              rfl
             refine pure_ (i:=4) (N:=some 32) (v:=?_) (a':=?_) #[y',y',y',y',y',n',n',n',n',n',n',n',n'] rfl rfl (any_of HT_.out (by kernel_rfl)) (fun _ _ _ h=>h) (Or.inl ⟨by rfl,?_⟩) ?_ ?_;rotate_left
             ·intro w';go_simp;with_reducible rfl
             rotate_left
             ·simp only[Act.put,z1',z2',z3',i64_w,i32_w]
              rfl
             refine pure_ (i:=6) (N:=some 34) (v:=?_) (a':=?_) #[y',y',y',y',y',n',y',n',n',n',n',n',n'] rfl rfl (any_of HT_.out (by kernel_rfl)) (fun _ _ _ h=>h) (Or.inl ⟨by rfl,?_⟩) ?_ ?_;rotate_left
             ·intro w';go_simp;with_reducible rfl
             rotate_left
             ·simp only[Act.put,z1',z2',z3',i64_w,i32_w]
              rfl
             refine pure_ (i:=7) (N:=some 35) (v:=?_) (a':=?_) #[y',y',y',y',y',n',y',y',n',n',n',n',n'] rfl rfl (any_of HT_.out (by kernel_rfl)) (fun _ _ _ h=>h) (Or.inl ⟨by rfl,?_⟩) ?_ ?_;rotate_left
             ·intro w';go_simp;with_reducible rfl
             rotate_left
             ·simp only[Act.put,z1',z2',z3',i64_w,i32_w]
              rfl
             refine pure_ (i:=8) (N:=some 36) (v:=?_) (a':=?_) #[y',y',y',y',y',n',y',y',y',n',n',n',n'] rfl rfl (any_of HT_.out (by kernel_rfl)) (fun _ _ _ h=>h) (Or.inl ⟨by rfl,?_⟩) ?_ ?_;rotate_left
             ·intro w';go_simp;with_reducible rfl
             rotate_left
             ·simp only[Act.put,z1',z2',z3',i64_w,i32_w]
              rfl
             refine pure_ (i:=9) (N:=some 37) (v:=?_) (a':=?_) #[y',y',y',y',y',n',y',y',y',y',n',n',n'] rfl rfl (any_of HT_.out (by kernel_rfl)) (fun _ _ _ h=>h) (Or.inl ⟨by rfl,?_⟩) ?_ ?_;rotate_left
             ·intro w';go_simp;with_reducible rfl
             rotate_left
             ·simp only[Act.put,z1',z2',z3',i64_w,i32_w]
              rfl
             refine take_ (i:=5) (N:=some 33) (v:=?_) (a':=?_) #[y',y',y',y',y',y',y',y',y',y',n',n',n'] rfl rfl (take_ofW HT_.out HW_.out (by kernel_rfl)) (fun _ _ _ h=>h) (Or.inl ⟨by rfl,?_⟩) hHeld ?_ ?_;rotate_left
             ·rintro w' ⟨s0,s1,s2,s3⟩;go_simp;with_reducible rfl
             rotate_left
             ·simp only[Act.put,z1',z2',z3',i64_w,i32_w]
              rfl
             refine take_ (i:=10) (N:=some 38) (v:=?_) (a':=?_) #[y',y',y',y',y',y',y',y',y',y',y',n',n'] rfl rfl (take_ofW HT_.out HW_.out (by kernel_rfl)) (fun _ _ _ h=>h) (Or.inl ⟨by rfl,?_⟩) hHeld ?_ ?_;rotate_left
             ·rintro w' ⟨s0,s1,s2,s3⟩;go_simp;with_reducible rfl
             rotate_left
             ·simp only[Act.put,z1',z2',z3',i64_w,i32_w]
              rfl
             refine pure_ (i:=11) (N:=some 39) (v:=?_) (a':=?_) #[y',y',y',y',y',y',y',y',y',y',y',y',n'] rfl rfl (any_of HT_.out (by kernel_rfl)) (fun _ _ _ h=>h) (Or.inl ⟨by rfl,?_⟩) ?_ ?_;rotate_left
             ·intro w';go_simp;with_reducible rfl
             rotate_left
             ·simp only[Act.put,z1',z2',z3',i64_w,i32_w]
              rfl
             refine last_ (i:=12) (N:=none) #[y',y',y',y',y',y',y',y',y',y',y',y',y'] rfl rfl (one_of HT_.out (by kernel_rfl)) (by decide) (fun K hK=>?_);refine skip_ (w1:=?_) (by rfl) rfl ?_ ?_;rotate_left
             ·go_simp
              rfl
             refine hK.out _ _ ?_;clear hK K;refine done_ (done_of HT_.out (by kernel_rfl)) ?_;have n0_:Aside0 (Kd.S (Kd.slice 2 (Kd.int .i64)) 62 (w22.setCell ⟨aH,(((rd_T51 l0 aA).f0):Int).toNat,none⟩ (.int .i64 ((rd_T51 l0 aA).f1))) w.heap.size (fun k_=>some k_≠(.slice (some ⟨aH,0,none⟩) aG.length bI:Value).ownBlock) u3 aI):=⟨by(with_reducible repeat(first|apply Kd.S_alloc|apply Kd.S_drewN|apply Kd.S_drew));exact Kd.S_mono (Kd.S_far (p:=⟨aH,(((rd_T51 l0 aA).f0):Int).toNat,none⟩) (Kd.S_mono HO_3.out (fun k_ hk=>(⟨hk,fun e_=>hk (by rw[e_];rfl)⟩:_∧k_≠aH))) (fun _ hk=>hk.2) (.int .i64 ((rd_T51 l0 aA).f1))) (fun _ hk=>hk.1)⟩
             have n1_:Aside0 (Kd.R (Kd.int .i64) 2 (w22.setCell ⟨aH,(((rd_T51 l0 aA).f0):Int).toNat,none⟩ (.int .i64 ((rd_T51 l0 aA).f1))) w.heap.size (fun _=>True) (.slice (some ⟨aH,0,none⟩) aG.length bI) bK):=⟨by(with_reducible repeat(first|apply Kd.R_alloc|apply Kd.R_drewN|apply Kd.R_drew));exact cI.out⟩
             have n2_:Aside0 (Below w.heap.size w (w22.setCell ⟨aH,(((rd_T51 l0 aA).f0):Int).toNat,none⟩ (.int .i64 ((rd_T51 l0 aA).f1)))):=⟨qZ6_1 HB.out cO.out⟩
             (try clear HO_3);(try clear aC);(try clear HB)
             generalize (w22.setCell ⟨aH,(((rd_T51 l0 aA).f0):Int).toNat,none⟩ (.int .i64 ((rd_T51 l0 aA).f1)))=w24 at n0_ n1_ n2_ ⊢
             have HO_3:=n0_;have aC:=n1_;have HB:=n2_;clear n0_ n1_ n2_;try go_wp2_with (first|((with_reducible refine gate_builtin (b:=.append) (xs:=#[.tmp 40,.tmp 42]) rfl ?_);at_builtin;refine Kd.S_append (Kd.slice 2 (Kd.int .i64)) (w0:=w) w.heap.size rfl (.tmp 40) (.tmp 42) 36 62 (.slice none 0 0) 24 rfl Tryz.underlying36 info62 rfl (by decide) (by omega) u3 aI bK [.slice (some ⟨aH,0,none⟩) aG.length bI] (fun _=>True) (fun k_=>some k_=(.slice (some ⟨aH,0,none⟩) aG.length bI:Value).ownBlock) rfl rfl ?aP (fun k_ hk_=>((Kd.R_mono (ok':=fun k_=>((fun _=>True)) k_∧some k_≠(u3:Value).ownBlock) (Kd.R_apart' (aC.out) (Kd.S_typed HO_3.out) (by decide)) (fun k_ hk=>⟨trivial,hk.2⟩))).1 k_ hk_.symm) ?aF ?aO ?aB ?aS ?aL ?_;(case aP=>exact Kd.M_row (Kd.R_mono (Kd.R_tight rfl (Kd.R_mono (ok':=fun k_=>((fun _=>True)) k_∧some k_≠(u3:Value).ownBlock) (Kd.R_apart' (aC.out) (Kd.S_typed HO_3.out) (by decide)) (fun k_ hk=>⟨trivial,hk.2⟩))) (fun _ h_=>h_)));(case aB=>exact(qZ6_0 HB.out));(case aF=>exact(fun _ _=>trivial));(case aO=>exact(by(with_reducible repeat(first|apply Kd.S_alloc|apply Kd.S_drewN|apply Kd.S_drew));exact Kd.S_mono HO_3.out (fun k_ hk=>⟨trivial,fun e_=>hk e_⟩)));(case aS=>exact(below_size (qZ6_0 HB.out)));(case aL=>have:=cP.out;omega);intro dL dQ ho hb hg hat;rw[← cS.out]at ho;have n0_:=G (hb);have n1_:=G (ho);clear HB;clear HO_3;clear aC;have HB:=n0_;have cQ:=n1_;clear n0_ n1_;clear ho hb hg hat))
             go_roundg k1
             case measure=>have:=dJ.out;omega
             case rel=>exact⟨(cT),(wrap64 (aA+1)),(by first|rfl|(simp;done)|(simp[*];done)),H',⟨by have:=dJ.out;omega⟩,⟨by(with_reducible repeat(first|apply Kd.S_alloc|apply Kd.S_drewN|apply Kd.S_drew));exact cQ.out⟩,⟨qZ6_0 HB.out⟩⟩
            ·rw[if_neg c16]at H;exact absurd H (by simp)
           ·rw[if_neg c14]at H;exact absurd H (by simp)
          ·rw[if_neg c13]at H;exact absurd H (by simp)
         ·rw[if_neg c12]at H;exact absurd H (by simp)
        ·rw[if_neg c10]at H;exact absurd H (by simp)
       ·rw[if_neg c9]at H;exact absurd H (by simp)
      ·rw[if_neg c8]at H;exact absurd H (by simp)
     ·rw[if_neg c7]at H;exact absurd H (by simp)
    ·rw[if_neg c5]at H;exact absurd H (by simp)
   ·rw[if_neg c4]at H;have c4b0:decide (aA<(l0.length:Int))=false:=decide_eq_false c4;clear c4;obtain rfl:=Option.some.inj H;go_wp2;go_ret;exact⟨_,by first|rfl|(simp[errW_none,errW_some] <;> rfl)|(simp[*,errW_none,errW_some] <;> rfl),by(with_reducible repeat(first|apply Kd.S_alloc|apply Kd.S_drewN|apply Kd.S_drew));exact HO_3.out,qZ6_0 HB.out⟩
/-! ### impl_PartsOfWay: function 14 -/
def impl_PartsOfWay.f (k:Nat) (aB:Int) (aC:Int) (aE:Bool) (l1:List (S51)):Option ((List (List Int))×Int):=(impl_wayCode.f k aB aC aE l1).bind fun aA=>(if aA=0 then((impl_partsOfWay.f k l1).bind fun aD=>(some (aD,0)))else(some (([]:List (List Int)),aA)))
theorem impl_PartsOfWay.mono: ∀a0 a1 a2 a3 k,LeO (impl_PartsOfWay.f k a0 a1 a2 a3) (impl_PartsOfWay.f (k+1) a0 a1 a2 a3):=by
 intro a0 a1 a2 a3 k
 unfold impl_PartsOfWay.f
 repeat' first
   |(with_reducible exact impl_partsOfWay.mono _ _)
   |(with_reducible exact impl_wayCode.mono _ _ _ _ _)
   |(with_reducible exact LeO.refl _)
   |(with_reducible exact LeO.none _)
   |(with_reducible refine LeO.ite ?_ ?_)
   |(with_reducible refine LeO.bind ?_ (fun _=>?_))
   |exact LeO.none _
   |refine LeO.ite ?_ ?_
   |refine LeO.bind ?_ (fun _=>?_)
set_option maxHeartbeats 8000000 in
set_option maxRecDepth 100000 in
theorem impl_PartsOfWay.calls (k:Nat) (aD:Int) (aF:Int) (aG:Bool) (A1:Option Addr) (c1:Nat) (l1:List (S51)) (r1:List (List Int)) (r2:Int) (w:World) (bB:Kd.C k51 w A1 l1.length l1) (bE:l1.length≤c1) (h:impl_PartsOfWay.f k aD aF aG l1=some (r1,r2)):
  Calls Tryz.prog 14 #[.agg #[.int .i64 aD,.int .i64 aF,.bool aG],.slice A1 l1.length c1] w fun e w'=>∃v0_:Value,e= .returned (.tuple #[v0_,.int .i64 r2])∧Kd.S (Kd.slice 2 (Kd.int .i64)) 62 w' w.heap.size (fun _=>True) v0_ r1∧Below w.heap.size w w':=by
 have bG:=Tryz.underlying25;have aZ:=A' bB;have aX:=A' bE;clear bB bE;have HB:=A' (Below.refl w.heap.size w);have H:((impl_wayCode.f k aD aF aG l1).bind fun aC=>(if aC=0 then((impl_partsOfWay.f k l1).bind fun aJ=>(some (aJ,0)))else(some (([]:List (List Int)),aC))))=some (r1,r2):=h;clear h;replace H:=Option.bind_eq_some_iff.mp H;obtain⟨aC,bF,H⟩:=H;replace H:(if aC=0 then((impl_partsOfWay.f k l1).bind fun aJ=>(some (aJ,0)))else(some (([]:List (List Int)),aC)))=some (r1,r2):=H;have A3:=A' bF;clear bF
 by_cases c4:aC=0
 ·rw[if_pos c4]at H;have c4b0:(aC == 0)=true:=beq_iff_eq.mpr c4;have c4b1:(aC != 0)=false:=bne_eq_false_iff_eq.mpr c4;clear c4;replace H:=Option.bind_eq_some_iff.mp H;obtain⟨aJ,bD,H⟩:=H;replace H:(some (aJ,0))=some (r1,r2):=H;have A5:=A' bD;clear bD;simp only[Option.some.injEq,Prod.mk.injEq]at H;obtain⟨rfl,rfl⟩:=H;go_enter Tryz.func14,Tryz.ntmps14;go_wp2_with (first|((with_reducible refine gate_dst (N:=2) rfl ?_);refine box_event ?hg (N:=2) ?hd (cs:=#[.int .i64 aD,.int .i64 aF,.bool aG]) (t:=25) ?hr ?_;(case hd=>rfl);(case hg=>rfl);(case hr=>first|(go_simp;done)|(go_simp;rfl));intro aB hg w6 hbox hb;have n0_:=A' (W' (qK0 HB.out) hb);have n1_:=A' (hbox);have n2_:=A' ((by rw[hg];exact(V' (qK0 HB.out)):w.heap.size≤aB));have n3_:=A' ((by rw[hg];exact(V' (qK0 HB.out)):w.heap.size≤aB));clear HB;have HB:=n0_;have aA:=n1_;have aK:=n2_;have aE:=n3_;clear n0_ n1_ n2_ n3_;clear hb hbox hg;have aV:w6.cell? ⟨aB,0,none⟩=some (.int .i64 aD):=(N' aA.out 0).trans rfl;have bA:w6.cell? ⟨aB,1,none⟩=some (.int .i64 aF):=(N' aA.out 1).trans rfl;have aY:w6.cell? ⟨aB,2,none⟩=some (.bool aG):=(N' aA.out 2).trans rfl;have aU:=Y' aA.out 0;have aT:=Y' aA.out 1;have aW:=Y' aA.out 2)|((with_reducible refine gate_callee (f:=27) rfl ?_);refine goesL_ (some 9) rfl rfl Tryz.func27 (by kernel_rfl) rfl #[.agg #[.int .i64 aD,.int .i64 aF,.bool aG],.slice A1 l1.length c1] rfl (by(try simp only[List.map_toArray,List.map_cons,List.map_nil]);first|done|rfl|(simp only[List.length_drop,List.length_take];rfl)) ?_;(with_reducible refine(impl_wayCode.calls k aD aF aG _ _ l1 aC _ ?aI ?aH A3.out).mono ?_);(case aI=>exact qT (X' aZ.out HB.out));(case aH=>exact aX.out);rintro e w8 ⟨rfl,hb⟩;refine⟨_,rfl,?_⟩;replace aA:=A' (O' (g:=aB) (qB aA.out) hb);replace HB:=A' (W' (qK1 HB.out aE.out) hb);(try clear hb);(try clear hb2);(try clear hk);(try clear hi))|((with_reducible refine gate_callee (f:=37) rfl ?_);refine goesL_ (some 14) rfl rfl Tryz.func37 (by kernel_rfl) rfl #[.slice A1 l1.length c1] rfl (by(try simp only[List.map_toArray,List.map_cons,List.map_nil]);first|done|rfl|(simp only[List.length_drop,List.length_take];rfl)) ?_;(with_reducible refine(impl_partsOfWay.calls k _ _ l1 aJ _ ?aI ?aH A5.out).mono ?_);(case aI=>exact qT (X' aZ.out HB.out));(case aH=>exact aX.out);rintro e w9 ⟨bH,rfl,bC,hb⟩;refine⟨_,rfl,?_⟩;have n0_:=A' (Kd.S_lower bC (V' (qK1 HB.out aE.out)));have n1_:=A' (O' (g:=aB) (qB aA.out) hb);have n2_:=A' (W' (qK1 HB.out aE.out) hb);clear aA;clear HB;have aL:=n0_;have aA:=n1_;have HB:=n2_;clear n0_ n1_ n2_;(try clear hb);(try clear hb2);(try clear hk);(try clear hi);(try clear bC)));go_ret2;exact⟨_,qE,by(with_reducible repeat(first|apply Kd.S_alloc|apply Kd.S_drewN|apply Kd.S_drew));exact aL.out,qK1 HB.out aE.out⟩
 ·rw[if_neg c4]at H;have c4b0:(aC == 0)=false:=beq_eq_false_iff_ne.mpr c4;have c4b1:(aC != 0)=true:=bne_iff_ne.mpr c4;simp only[Option.some.injEq,Prod.mk.injEq]at H;obtain⟨rfl,rfl⟩:=H;go_enter Tryz.func14,Tryz.ntmps14;go_wp2_with (first|((with_reducible refine gate_dst (N:=2) rfl ?_);refine box_event ?hg (N:=2) ?hd (cs:=#[.int .i64 aD,.int .i64 aF,.bool aG]) (t:=25) ?hr ?_;(case hd=>rfl);(case hg=>rfl);(case hr=>first|(go_simp;done)|(go_simp;rfl));intro aB hg aS hbox hb;have n0_:=A' (W' (qK0 HB.out) hb);have n1_:=A' (hbox);have n2_:=A' ((by rw[hg];exact(V' (qK0 HB.out)):w.heap.size≤aB));have n3_:=A' ((by rw[hg];exact(V' (qK0 HB.out)):w.heap.size≤aB));clear HB;have HB:=n0_;have aA:=n1_;have aK:=n2_;have aE:=n3_;clear n0_ n1_ n2_ n3_;clear hb hbox hg;have aQ:aS.cell? ⟨aB,0,none⟩=some (.int .i64 aD):=(N' aA.out 0).trans rfl;have aO:aS.cell? ⟨aB,1,none⟩=some (.int .i64 aF):=(N' aA.out 1).trans rfl;have aM:aS.cell? ⟨aB,2,none⟩=some (.bool aG):=(N' aA.out 2).trans rfl;have aN:=Y' aA.out 0;have aP:=Y' aA.out 1;have aR:=Y' aA.out 2)|((with_reducible refine gate_callee (f:=27) rfl ?_);refine goesL_ (some 9) rfl rfl Tryz.func27 (by kernel_rfl) rfl #[.agg #[.int .i64 aD,.int .i64 aF,.bool aG],.slice A1 l1.length c1] rfl (by(try simp only[List.map_toArray,List.map_cons,List.map_nil]);first|done|rfl|(simp only[List.length_drop,List.length_take];rfl)) ?_;(with_reducible refine(impl_wayCode.calls k aD aF aG _ _ l1 aC _ ?aI ?aH A3.out).mono ?_);(case aI=>exact qT (X' aZ.out HB.out));(case aH=>exact aX.out);rintro e bI ⟨rfl,hb⟩;refine⟨_,rfl,?_⟩;replace aA:=A' (O' (g:=aB) (qB aA.out) hb);replace HB:=A' (W' (qK1 HB.out aE.out) hb);(try clear hb);(try clear hb2);(try clear hk);(try clear hi)));go_ret2;exact⟨_,qE,by first|exact Kd.S_nil _ _ _ _ _|exact Kd.N_nil _ _ _ _ _|exact Kd.V_nil _ _ _ _ _|exact Kd.Q_nil _ _ _ _ _|exact Kd.R_nil _ _ _ _ _,qK1 HB.out aE.out⟩
/-! ### spec_l07Parts: function 38 -/
def spec_l07Parts.l0:Nat→List (S51)→List (List Int)→Int→Option ((List (List Int)))
 |0,_,_,_=>none
 |k+1,x0,x3,x4=>if x4<(x0.length:Int)then(if 0≤(wrap64 (x4 - 1))then(if(wrap64 (x4 - 1))<(x0.length:Int)then(if 0≤x4 then(if((rd_T51 x0 x4).f0)=0 then(if x3.length<5864062014805 then(spec_l07Parts.l0 k x0 (x3 ++ [(([(rd_T51 x0 x4).f1,(rd_T51 x0 (wrap64 (x4 - 1))).f1]:List Int))]) (wrap64 (x4+1)))else(none))else(if x3.length<5864062014805 then(spec_l07Parts.l0 k x0 (x3 ++ [(([(rd_T51 x0 (wrap64 (x4 - 1))).f1,(rd_T51 x0 x4).f1]:List Int))]) (wrap64 (x4+1)))else(none)))else(none))else(none))else(none))else(some x3)
def spec_l07Parts.f (k:Nat) (l0:List (S51)):Option ((List (List Int))):=spec_l07Parts.l0 k l0 (([]:List (List Int))) 1
theorem spec_l07Parts.mono_l: ∀k,(∀y0 y1 y2,LeO (spec_l07Parts.l0 k y0 y1 y2) (spec_l07Parts.l0 (k+1) y0 y1 y2))
 |0=>fun _ _ _ r h=>by simp[spec_l07Parts.l0]at h
 |k+1=>by
  have aA:=spec_l07Parts.mono_l k
  ·intro y0 y1 y2
   unfold spec_l07Parts.l0
   repeat' first
   |(with_reducible exact aA _ _ _)
   |(with_reducible exact LeO.refl _)
   |(with_reducible exact LeO.none _)
   |(with_reducible refine LeO.ite ?_ ?_)
   |(with_reducible refine LeO.bind ?_ (fun _=>?_))
   |exact LeO.none _
   |refine LeO.ite ?_ ?_
   |refine LeO.bind ?_ (fun _=>?_)
theorem spec_l07Parts.mono: ∀a0 k,LeO (spec_l07Parts.f k a0) (spec_l07Parts.f (k+1) a0):=by
 intro a0 k
 have aA:=spec_l07Parts.mono_l k
 unfold spec_l07Parts.f
 repeat' first
   |(with_reducible exact aA _ _ _)
   |(with_reducible exact LeO.refl _)
   |(with_reducible exact LeO.none _)
   |(with_reducible refine LeO.ite ?_ ?_)
   |(with_reducible refine LeO.bind ?_ (fun _=>?_))
   |exact LeO.none _
   |refine LeO.ite ?_ ?_
   |refine LeO.bind ?_ (fun _=>?_)
set_option maxHeartbeats 8000000 in
set_option maxRecDepth 100000 in
theorem spec_l07Parts.calls (k:Nat) (A0:Option Addr) (c0:Nat) (l0:List (S51)) (r:List (List Int)) (w:World) (cL:Kd.C k51 w A0 l0.length l0) (cK:l0.length≤c0) (h:spec_l07Parts.f k l0=some r):
  Calls Tryz.prog 38 #[.slice A0 l0.length c0] w fun e w'=>∃v0_:Value,e= .returned (v0_)∧Kd.S (Kd.slice 2 (Kd.int .i64)) 62 w' w.heap.size (fun _=>True) v0_ r∧Below w.heap.size w w':=by
 have bQ:=A' cL;have cS:=A' cK;clear cL cK;have HB:=A' (Below.refl w.heap.size w);have H:(spec_l07Parts.l0 k l0 (([]:List (List Int))) 1)=some r:=h;clear h;obtain⟨bT,aU⟩: ∃y_:List (List Int),y_=(([]:List (List Int))):=⟨_,rfl⟩
 replace H:(spec_l07Parts.l0 k l0 bT 1)=some r:=by first|(rw[aU];with_reducible exact H)|(have H2_:=(Option.bind_some _ _).symm.trans H;rw[aU];with_reducible exact H2_)|(have H2_:=(Option.bind_some _ _).symm.trans H;with_reducible exact H2_)|with_reducible exact H|(rw[aU];exact H)|exact H
 have bJ:=A' aU;clear aU;have H':=A' H;clear H;go_enter Tryz.func38,Tryz.ntmps38;go_wp2_with (first|((with_reducible refine gate_dst (N:=7) rfl ?_);refine Kd.S_lit (Kd.slice 2 (Kd.int .i64)) _ 62 ?hg (N:=7) ?hd (xs:=([]:List (List Int))) (inner:=[]) (ok:=fun _=>True) (okp:=fun _=>True) ?hr ?hp (fun _ hk=>hk) trivial (Below.refl _ _) (Nat.le_refl _) (by simp) ?_;(case hd=>rfl);(case hg=>rfl);(case hr=>first|(go_simp;done)|(go_simp;rfl));(case hp=>exact(Reps.none _ _));intro cP w2 cA hb hg_ hnew_;clear hg_ hnew_;(first|rw[← bJ.out]at cA|(simp only[Int.reduceToNat]at cA;rw[← bJ.out]at cA));have n0_:=A' (Kd.S_lower cA (V' (qK0 HB.out)));have n1_:=A' (W' (qK0 HB.out) hb);clear HB;have bR:=n0_;have HB:=n1_;clear n0_ n1_;clear hb cA))
 go_loopg [3,4] k (fun kq v3 v4 w'=>∃(aC:List (List Int)) (aA:Int),v4= .int .i64 aA∧Aside0 (spec_l07Parts.l0 kq l0 aC aA=some r)∧Aside0 (kq≤k)∧Aside0 (Kd.S (Kd.slice 2 (Kd.int .i64)) 62 w' w.heap.size (fun _=>True) v3 aC)∧Aside0 (Below w.heap.size w w'))
 case atStart=>exact⟨(bT),(1),qS,H',⟨Nat.le_refl _⟩,⟨by(with_reducible repeat(first|apply Kd.S_alloc|apply Kd.S_drewN|apply Kd.S_drew));exact bR.out⟩,⟨qK0 HB.out⟩⟩
 case round=>
  clear H';try clear p2
  try clear c3
  obtain⟨aC,aA,rfl,HA,cH,HO_3,HB⟩:=hrel
  cases gk with
  |zero=>exact absurd HA.out (by simp[spec_l07Parts.l0])
  |succ k1=>
   have H:=HA.out;clear HA;simp only[spec_l07Parts.l0]at H
   by_cases c4:aA<(l0.length:Int)
   ·rw[if_pos c4]at H;have c4b0:decide (aA<(l0.length:Int))=true:=dT' c4;clear c4;obtain⟨aK,bP⟩: ∃j_:Int,(wrap64 (aA - 1))=j_:=⟨_,rfl⟩
    replace H:(if 0≤(aK)then(if(aK)<(l0.length:Int)then(if 0≤aA then(if((rd_T51 l0 aA).f0)=0 then(if aC.length<5864062014805 then(spec_l07Parts.l0 k1 l0 (aC ++ [(([(rd_T51 l0 aA).f1,(rd_T51 l0 (aK)).f1]:List Int))]) (wrap64 (aA+1)))else(none))else(if aC.length<5864062014805 then(spec_l07Parts.l0 k1 l0 (aC ++ [(([(rd_T51 l0 (aK)).f1,(rd_T51 l0 aA).f1]:List Int))]) (wrap64 (aA+1)))else(none)))else(none))else(none))else(none))=some r:=by first|(rw[bP]at H;exact H)|(simp only[bP]at H ⊢;exact H)
    have hji5w:(IntKind.i64.wrap (aA - 1))=aK:=(i64_w _).trans bP
    by_cases c6:0≤(aK)
    ·rw[if_pos c6]at H;have c6b0:decide (0≤(aK))=true:=dT' c6;clear c6
     by_cases c7:(aK)<(l0.length:Int)
     ·rw[if_pos c7]at H;have c7b0:decide ((aK)<(l0.length:Int))=true:=dT' c7;clear c7
      by_cases c8:0≤aA
      ·rw[if_pos c8]at H;have c8b0:decide (0≤aA)=true:=dT' c8;clear c8
       by_cases c9:((rd_T51 l0 aA).f0)=0
       ·rw[if_pos c9]at H;have c9b0:(((rd_T51 l0 aA).f0) == 0)=true:=beq_iff_eq.mpr c9;have c9b1:(((rd_T51 l0 aA).f0) != 0)=false:=bne_eq_false_iff_eq.mpr c9;clear c9;obtain⟨bH,aN⟩: ∃y_:List Int,y_=(([(rd_T51 l0 aA).f1,(rd_T51 l0 (aK)).f1]:List Int)):=⟨_,rfl⟩
        replace H:(if aC.length<5864062014805 then(spec_l07Parts.l0 k1 l0 (aC ++ [bH]) (wrap64 (aA+1)))else(none))=some r:=by first|(rw[aN];with_reducible exact H)|(have H2_:=(Option.bind_some _ _).symm.trans H;rw[aN];with_reducible exact H2_)|(have H2_:=(Option.bind_some _ _).symm.trans H;with_reducible exact H2_)|with_reducible exact H|(rw[aN];exact H)|exact H
        have bL:=A' aN;clear aN
        by_cases c10:aC.length<5864062014805
        ·rw[if_pos c10]at H;have cF:=A' c10;clear c10;obtain⟨bS,aT⟩: ∃y_:List (List Int),y_=(aC ++ [bH]):=⟨_,rfl⟩
         replace H:(spec_l07Parts.l0 k1 l0 bS (wrap64 (aA+1)))=some r:=by first|(rw[aT];with_reducible exact H)|(have H2_:=(Option.bind_some _ _).symm.trans H;rw[aT];with_reducible exact H2_)|(have H2_:=(Option.bind_some _ _).symm.trans H;with_reducible exact H2_)|with_reducible exact H|(rw[aT];exact H)|exact H
         have cG:=A' aT;clear aT;have H':=A' H;clear H;have aW:0≤((aK):Int):=oD' qA;have aY:(aK)<(l0.length:Int):=oD' qA;obtain⟨aR,bM,aG,aH⟩:=at_T51 bQ.out (aK) aW aY
         cases bM
         try replace aG:=qC HB.out aG
         try replace aH:=qC HB.out aH
         replace aW:=eq_true aW;replace aY:=eq_true aY;have aV:0≤(aA:Int):=oD' qA;have aZ:aA<(l0.length:Int):=oD' qA;obtain⟨bG,bN,aJ,aI⟩:=at_T51 bQ.out aA aV aZ;obtain rfl:aR=bG:=(by injection bN)
         try replace aJ:=qC HB.out aJ
         try replace aI:=qC HB.out aI
         replace aV:=eq_true aV;replace aZ:=eq_true aZ;have aX:0≤(aA:Int):=oD' qA;have bA:aA<(l0.length:Int):=oD' qA;obtain⟨bF,bO,aD,aE⟩:=at_T51 bQ.out aA aX bA;obtain rfl:aR=bF:=(by injection bO)
         try replace aD:=qC HB.out aD
         try replace aE:=qC HB.out aE
         replace aX:=eq_true aX;replace bA:=eq_true bA;go_wp2_with (first|((with_reducible refine gate_dst (N:=34) rfl ?_);refine Kd.R_lit (Kd.int .i64) _ 2 ?hg (N:=34) ?hd (xs:=([(rd_T51 l0 aA).f1,(rd_T51 l0 (aK)).f1]:List Int)) (inner:=[.int .i64 ((rd_T51 l0 aA).f1),.int .i64 ((rd_T51 l0 (aK)).f1)]) (ok:=fun _=>True) (okp:=fun _=>True) ?hr ?hp (fun _ hk=>hk) trivial (Below.refl _ _) (Nat.le_refl _) (by simp) ?_;(case hd=>rfl);(case hg=>rfl);(case hr=>first|(go_simp;done)|(go_simp;rfl));(case hp=>exact(Reps.one (show Kd.M (Kd.int .i64) _ _ _ ((rd_T51 l0 aA).f1) [.int .i64 ((rd_T51 l0 aA).f1)]from rfl) (Reps.one (show Kd.M (Kd.int .i64) _ _ _ ((rd_T51 l0 (aK)).f1) [.int .i64 ((rd_T51 l0 (aK)).f1)]from rfl) (Reps.none _ _))));intro cN cR bE hb hg_ hnew_;clear hg_ hnew_;(first|rw[← bL.out]at bE|(simp only[Int.reduceToNat]at bE;rw[← bL.out]at bE));have n0_:=A' (Kd.S_elder' (by(with_reducible repeat(first|apply Kd.S_alloc|apply Kd.S_drewN|apply Kd.S_drew));exact HO_3.out) (Kd.R_base bE) hb);have n1_:=A' (Kd.R_lower bE (V' (qK0 HB.out)));have n2_:=A' (W' (qK0 HB.out) hb);clear HO_3;clear HB;have HO_3:=n0_;have bB:=n1_;have HB:=n2_;clear n0_ n1_ n2_;clear hb bE;obtain⟨bU,bX,cJ⟩:=Kd.R_slice bB.out;subst cJ)|((with_reducible refine gate_builtin (b:=.append) (xs:=#[.tmp 31,.tmp 35]) rfl ?_);at_builtin;refine Kd.S_append (Kd.slice 2 (Kd.int .i64)) (w0:=w) w.heap.size rfl (.tmp 31) (.tmp 35) 36 62 (.slice none 0 0) 24 rfl Tryz.underlying36 info62 rfl (by decide) (by omega) u3 aC bH [.slice bU bH.length bX] (fun _=>True) (fun k_=>some k_=(.slice bU bH.length bX:Value).ownBlock) rfl rfl ?aP (fun k_ hk_=>((Q' (ok':=fun k_=>((fun _=>True)) k_∧some k_≠(u3:Value).ownBlock) (Kd.R_apart' (bB.out) (Kd.S_typed HO_3.out) (by decide)) (fun k_ hk=>⟨trivial,hk.2⟩))).1 k_ hk_.symm) ?aF ?aO ?aB ?aS ?aL ?_;(case aP=>exact Kd.M_row (Q' (Kd.R_tight rfl (Q' (ok':=fun k_=>((fun _=>True)) k_∧some k_≠(u3:Value).ownBlock) (Kd.R_apart' (bB.out) (Kd.S_typed HO_3.out) (by decide)) (fun k_ hk=>⟨trivial,hk.2⟩))) (fun _ h_=>h_)));(case aB=>exact(qK0 HB.out));(case aF=>exact(fun _ _=>trivial));(case aO=>exact(by(with_reducible repeat(first|apply Kd.S_alloc|apply Kd.S_drewN|apply Kd.S_drew));exact Kd.S_mono HO_3.out (fun k_ hk=>⟨trivial,fun e_=>hk.2 e_⟩)));(case aS=>exact(V' (qK0 HB.out)));(case aL=>have:=cF.out;omega);intro cM cT ho hb hg hat;rw[← cG.out]at ho;have n0_:=A' (hb);have n1_:=A' (ho);clear HB;clear HO_3;clear bB;have HB:=n0_;have bY:=n1_;clear n0_ n1_;clear ho hb hg hat))
         go_roundg k1
         case measure=>have:=cH.out;omega
         case rel=>exact⟨(bS),(wrap64 (aA+1)),qS,H',⟨by have:=cH.out;omega⟩,⟨by(with_reducible repeat(first|apply Kd.S_alloc|apply Kd.S_drewN|apply Kd.S_drew));exact bY.out⟩,⟨qK0 HB.out⟩⟩
        ·rw[if_neg c10]at H;exact absurd H (by simp)
       ·rw[if_neg c9]at H;have c9b0:(((rd_T51 l0 aA).f0) == 0)=false:=beq_eq_false_iff_ne.mpr c9;have c9b1:(((rd_T51 l0 aA).f0) != 0)=true:=bne_iff_ne.mpr c9;obtain⟨bI,aQ⟩: ∃y_:List Int,y_=(([(rd_T51 l0 (aK)).f1,(rd_T51 l0 aA).f1]:List Int)):=⟨_,rfl⟩
        replace H:(if aC.length<5864062014805 then(spec_l07Parts.l0 k1 l0 (aC ++ [bI]) (wrap64 (aA+1)))else(none))=some r:=by first|(rw[aQ];with_reducible exact H)|(have H2_:=(Option.bind_some _ _).symm.trans H;rw[aQ];with_reducible exact H2_)|(have H2_:=(Option.bind_some _ _).symm.trans H;with_reducible exact H2_)|with_reducible exact H|(rw[aQ];exact H)|exact H
        have bK:=A' aQ;clear aQ
        by_cases c15:aC.length<5864062014805
        ·rw[if_pos c15]at H;have cC:=A' c15;clear c15;obtain⟨cD,aM⟩: ∃y_:List (List Int),y_=(aC ++ [bI]):=⟨_,rfl⟩
         replace H:(spec_l07Parts.l0 k1 l0 cD (wrap64 (aA+1)))=some r:=by first|(rw[aM];with_reducible exact H)|(have H2_:=(Option.bind_some _ _).symm.trans H;rw[aM];with_reducible exact H2_)|(have H2_:=(Option.bind_some _ _).symm.trans H;with_reducible exact H2_)|with_reducible exact H|(rw[aM];exact H)|exact H
         have bV:=A' aM;clear aM;have H':=A' H;clear H;have aW:0≤((aK):Int):=oD' qA;have aY:(aK)<(l0.length:Int):=oD' qA;obtain⟨aR,bM,aG,aH⟩:=at_T51 bQ.out (aK) aW aY
         cases bM
         try replace aG:=qC HB.out aG
         try replace aH:=qC HB.out aH
         replace aW:=eq_true aW;replace aY:=eq_true aY;have aV:0≤(aA:Int):=oD' qA;have aZ:aA<(l0.length:Int):=oD' qA;obtain⟨bG,bN,aJ,aI⟩:=at_T51 bQ.out aA aV aZ;obtain rfl:aR=bG:=(by injection bN)
         try replace aJ:=qC HB.out aJ
         try replace aI:=qC HB.out aI
         replace aV:=eq_true aV;replace aZ:=eq_true aZ;have aX:0≤(aA:Int):=oD' qA;have bA:aA<(l0.length:Int):=oD' qA;obtain⟨bF,bO,aD,aE⟩:=at_T51 bQ.out aA aX bA;obtain rfl:aR=bF:=(by injection bO)
         try replace aD:=qC HB.out aD
         try replace aE:=qC HB.out aE
         replace aX:=eq_true aX;replace bA:=eq_true bA;go_wp2_with (first|((with_reducible refine gate_dst (N:=40) rfl ?_);refine Kd.R_lit (Kd.int .i64) _ 2 ?hg (N:=40) ?hd (xs:=([(rd_T51 l0 (aK)).f1,(rd_T51 l0 aA).f1]:List Int)) (inner:=[.int .i64 ((rd_T51 l0 (aK)).f1),.int .i64 ((rd_T51 l0 aA).f1)]) (ok:=fun _=>True) (okp:=fun _=>True) ?hr ?hp (fun _ hk=>hk) trivial (Below.refl _ _) (Nat.le_refl _) (by simp) ?_;(case hd=>rfl);(case hg=>rfl);(case hr=>first|(go_simp;done)|(go_simp;rfl));(case hp=>exact(Reps.one (show Kd.M (Kd.int .i64) _ _ _ ((rd_T51 l0 (aK)).f1) [.int .i64 ((rd_T51 l0 (aK)).f1)]from rfl) (Reps.one (show Kd.M (Kd.int .i64) _ _ _ ((rd_T51 l0 aA).f1) [.int .i64 ((rd_T51 l0 aA).f1)]from rfl) (Reps.none _ _))));intro cO cU bD hb hg_ hnew_;clear hg_ hnew_;(first|rw[← bK.out]at bD|(simp only[Int.reduceToNat]at bD;rw[← bK.out]at bD));have n0_:=A' (Kd.S_elder' (by(with_reducible repeat(first|apply Kd.S_alloc|apply Kd.S_drewN|apply Kd.S_drew));exact HO_3.out) (Kd.R_base bD) hb);have n1_:=A' (Kd.R_lower bD (V' (qK0 HB.out)));have n2_:=A' (W' (qK0 HB.out) hb);clear HO_3;clear HB;have HO_3:=n0_;have bC:=n1_;have HB:=n2_;clear n0_ n1_ n2_;clear hb bD;obtain⟨cE,bZ,cI⟩:=Kd.R_slice bC.out;subst cI)|((with_reducible refine gate_builtin (b:=.append) (xs:=#[.tmp 37,.tmp 41]) rfl ?_);at_builtin;refine Kd.S_append (Kd.slice 2 (Kd.int .i64)) (w0:=w) w.heap.size rfl (.tmp 37) (.tmp 41) 36 62 (.slice none 0 0) 24 rfl Tryz.underlying36 info62 rfl (by decide) (by omega) u3 aC bI [.slice cE bI.length bZ] (fun _=>True) (fun k_=>some k_=(.slice cE bI.length bZ:Value).ownBlock) rfl rfl ?aP (fun k_ hk_=>((Q' (ok':=fun k_=>((fun _=>True)) k_∧some k_≠(u3:Value).ownBlock) (Kd.R_apart' (bC.out) (Kd.S_typed HO_3.out) (by decide)) (fun k_ hk=>⟨trivial,hk.2⟩))).1 k_ hk_.symm) ?aF ?aO ?aB ?aS ?aL ?_;(case aP=>exact Kd.M_row (Q' (Kd.R_tight rfl (Q' (ok':=fun k_=>((fun _=>True)) k_∧some k_≠(u3:Value).ownBlock) (Kd.R_apart' (bC.out) (Kd.S_typed HO_3.out) (by decide)) (fun k_ hk=>⟨trivial,hk.2⟩))) (fun _ h_=>h_)));(case aB=>exact(qK0 HB.out));(case aF=>exact(fun _ _=>trivial));(case aO=>exact(by(with_reducible repeat(first|apply Kd.S_alloc|apply Kd.S_drewN|apply Kd.S_drew));exact Kd.S_mono HO_3.out (fun k_ hk=>⟨trivial,fun e_=>hk.2 e_⟩)));(case aS=>exact(V' (qK0 HB.out)));(case aL=>have:=cC.out;omega);intro cQ cV ho hb hg hat;rw[← bV.out]at ho;have n0_:=A' (hb);have n1_:=A' (ho);clear HB;clear HO_3;clear bC;have HB:=n0_;have bW:=n1_;clear n0_ n1_;clear ho hb hg hat))
         go_roundg k1
         case measure=>have:=cH.out;omega
         case rel=>exact⟨(cD),(wrap64 (aA+1)),qS,H',⟨by have:=cH.out;omega⟩,⟨by(with_reducible repeat(first|apply Kd.S_alloc|apply Kd.S_drewN|apply Kd.S_drew));exact bW.out⟩,⟨qK0 HB.out⟩⟩
        ·rw[if_neg c15]at H;exact absurd H (by simp)
      ·rw[if_neg c8]at H;exact absurd H (by simp)
     ·rw[if_neg c7]at H;exact absurd H (by simp)
    ·rw[if_neg c6]at H;exact absurd H (by simp)
   ·rw[if_neg c4]at H;have c4b0:decide (aA<(l0.length:Int))=false:=dF' c4;clear c4;obtain rfl:=Option.some.inj H;go_wp2;go_ret;exact⟨_,qE,by(with_reducible repeat(first|apply Kd.S_alloc|apply Kd.S_drewN|apply Kd.S_drew));exact HO_3.out,qK0 HB.out⟩
/-! ### spec_PartsOfWay: function 15 -/
def spec_PartsOfWay.f (k:Nat) (aB:Int) (aC:Int) (aD:Bool) (l1:List (S51)):Option ((List (List Int))×Int):=(spec_l07Code.f k aB aC aD l1).bind fun aA=>(if aA.1=0 then((spec_l07Parts.f k l1).bind fun aE=>(some (aE,0)))else(some (([]:List (List Int)),aA.1)))
theorem spec_PartsOfWay.mono: ∀a0 a1 a2 a3 k,LeO (spec_PartsOfWay.f k a0 a1 a2 a3) (spec_PartsOfWay.f (k+1) a0 a1 a2 a3):=by
 intro a0 a1 a2 a3 k
 unfold spec_PartsOfWay.f
 repeat' first
   |(with_reducible exact spec_l07Code.mono _ _ _ _ _)
   |(with_reducible exact spec_l07Parts.mono _ _)
   |(with_reducible exact LeO.refl _)
   |(with_reducible exact LeO.none _)
   |(with_reducible refine LeO.ite ?_ ?_)
   |(with_reducible refine LeO.bind ?_ (fun _=>?_))
   |exact LeO.none _
   |refine LeO.ite ?_ ?_
   |refine LeO.bind ?_ (fun _=>?_)
theorem qZ6_2 {p q r0:Prop} (h:q) (g0:r0) (f:q→r0→p:=by intro h_ g0_;repeat(first|(with_reducible first|exact h_|apply K'|apply F'|apply J'|refine E' ?_ g0_)|exact h_)):p:=f h g0
theorem qZ6_3 {p q:Prop} (h:q) (f:q→p:=by intro h_;repeat(first|(with_reducible first|exact h_|apply IsS25.alloc|apply IsS25.drewN|apply IsS25.drew|apply IsS25.set_0|apply IsS25.set_1|apply IsS25.set_2)|exact h_)):p:=f h
set_option maxHeartbeats 8000000 in
set_option maxRecDepth 100000 in
theorem spec_PartsOfWay.calls (k:Nat) (aC:Int) (aE:Int) (aF:Bool) (A1:Option Addr) (c1:Nat) (l1:List (S51)) (r1:List (List Int)) (r2:Int) (w:World) (aV:Kd.C k51 w A1 l1.length l1) (aY:l1.length≤c1) (h:spec_PartsOfWay.f k aC aE aF l1=some (r1,r2)):
  Calls Tryz.prog 15 #[.agg #[.int .i64 aC,.int .i64 aE,.bool aF],.slice A1 l1.length c1] w fun e w'=>∃v0_:Value,e= .returned (.tuple #[v0_,.int .i64 r2])∧Kd.S (Kd.slice 2 (Kd.int .i64)) 62 w' w.heap.size (fun _=>True) v0_ r1∧Below w.heap.size w w':=by
 have bB:=Tryz.underlying25;have aU:=A' aV;have aT:=A' aY;clear aV aY;have HB:=A' (Below.refl w.heap.size w);have H:((spec_l07Code.f k aC aE aF l1).bind fun aN=>(if aN.1=0 then((spec_l07Parts.f k l1).bind fun aI=>(some (aI,0)))else(some (([]:List (List Int)),aN.1))))=some (r1,r2):=h;clear h;replace H:=Option.bind_eq_some_iff.mp H;obtain⟨⟨aD,aQ,aS,aR⟩,aZ,H⟩:=H;replace H:(if aD=0 then((spec_l07Parts.f k l1).bind fun aI=>(some (aI,0)))else(some (([]:List (List Int)),aD)))=some (r1,r2):=H;have A3:=A' aZ;clear aZ
 by_cases c4:aD=0
 ·rw[if_pos c4]at H;have c4b0:(aD == 0)=true:=beq_iff_eq.mpr c4;have c4b1:(aD != 0)=false:=bne_eq_false_iff_eq.mpr c4;clear c4;replace H:=Option.bind_eq_some_iff.mp H;obtain⟨aI,aX,H⟩:=H;replace H:(some (aI,0))=some (r1,r2):=H;have A5:=A' aX;clear aX;simp only[Option.some.injEq,Prod.mk.injEq]at H;obtain⟨rfl,rfl⟩:=H;go_enter Tryz.func15,Tryz.ntmps15;go_wp2_with (first|((with_reducible refine gate_dst (N:=2) rfl ?_);refine box_event ?hg (N:=2) ?hd (cs:=#[.int .i64 aC,.int .i64 aE,.bool aF]) (t:=25) ?hr ?_;(case hd=>rfl);(case hg=>rfl);(case hr=>first|(go_simp;done)|(go_simp;rfl));intro aB hg w6 hbox hb;have n0_:=A' (W' (qK0 HB.out) hb);have n1_:=A' (hbox);have n2_:=A' ((by rw[hg];exact(V' (qK0 HB.out)):w.heap.size≤aB));have n3_:=A' ((by rw[hg];exact(V' (qK0 HB.out)):w.heap.size≤aB));clear HB;have HB:=n0_;have aK:=n1_;have aO:=n2_;have aM:=n3_;clear n0_ n1_ n2_ n3_;clear hb hbox hg;have aA:=A' (show IsS25 w w6 aB aC aE aF from⟨(qB aK.out),aM.out⟩))|((with_reducible refine gate_callee (f:=29) rfl ?_);refine goesL_ (some 8) rfl rfl Tryz.func29 (by kernel_rfl) rfl #[.pointer (some ⟨aB,0,none⟩),.slice A1 l1.length c1] rfl (by(try simp only[List.map_toArray,List.map_cons,List.map_nil]);first|done|rfl|(simp only[List.length_drop,List.length_take];rfl)) ?_;(with_reducible refine(spec_l07Code.calls k aB aC aE aF _ _ l1 aD aQ aS aR w _ ?aH ?aG ?aJ ?aL A3.out).mono ?_);(case aH=>repeat(first|(with_reducible first|exact aA.out|apply IsS25.alloc|apply IsS25.drewN|apply IsS25.drew|apply IsS25.set_0|apply IsS25.set_1|apply IsS25.set_2)|exact aA.out));(case aG=>repeat(first|(with_reducible first|exact HB.out|apply K'|apply F'|apply J'|refine E' ?_ (IsS25.ge aA.out))|exact HB.out));(case aJ=>exact Kd.C_foot_came k51_heap aU.out (qZ6_2 HB.out (IsS25.ge aA.out)) (IsS25.ge aA.out));(case aL=>exact aT.out);rintro e w7 ⟨rfl,hi,hb,hk⟩;refine⟨_,rfl,?_⟩;replace HB:=A' (hb);replace aA:=A' (hi);(try clear hb);(try clear hb2);(try clear hk);(try clear hi))|((with_reducible refine gate_callee (f:=38) rfl ?_);refine goesL_ (some 13) rfl rfl Tryz.func38 (by kernel_rfl) rfl #[.slice A1 l1.length c1] rfl (by(try simp only[List.map_toArray,List.map_cons,List.map_nil]);first|done|rfl|(simp only[List.length_drop,List.length_take];rfl)) ?_;(with_reducible refine(spec_l07Parts.calls k _ _ l1 aI _ ?aH ?aG A5.out).mono ?_);(case aH=>exact qT (X' aU.out HB.out));(case aG=>exact aT.out);rintro e w8 ⟨bA,rfl,aW,hb⟩;refine⟨_,rfl,?_⟩;have n0_:=A' (Kd.S_lower aW (V' (qZ6_2 HB.out (IsS25.ge aA.out))));have n1_:=A' (IsS25.below (qZ6_3 aA.out) hb);have n2_:=A' (W' (qZ6_2 HB.out (IsS25.ge aA.out)) hb);clear aA;clear HB;have aP:=n0_;have aA:=n1_;have HB:=n2_;clear n0_ n1_ n2_;(try clear hb);(try clear hb2);(try clear hk);(try clear hi);(try clear aW)));go_ret2;exact⟨_,qE,by(with_reducible repeat(first|apply Kd.S_alloc|apply Kd.S_drewN|apply Kd.S_drew));exact aP.out,qZ6_2 HB.out (IsS25.ge aA.out)⟩
 ·rw[if_neg c4]at H;have c4b0:(aD == 0)=false:=beq_eq_false_iff_ne.mpr c4;have c4b1:(aD != 0)=true:=bne_iff_ne.mpr c4;simp only[Option.some.injEq,Prod.mk.injEq]at H;obtain⟨rfl,rfl⟩:=H;go_enter Tryz.func15,Tryz.ntmps15;go_wp2_with (first|((with_reducible refine gate_dst (N:=2) rfl ?_);refine box_event ?hg (N:=2) ?hd (cs:=#[.int .i64 aC,.int .i64 aE,.bool aF]) (t:=25) ?hr ?_;(case hd=>rfl);(case hg=>rfl);(case hr=>first|(go_simp;done)|(go_simp;rfl));intro aB hg w9 hbox hb;have n0_:=A' (W' (qK0 HB.out) hb);have n1_:=A' (hbox);have n2_:=A' ((by rw[hg];exact(V' (qK0 HB.out)):w.heap.size≤aB));have n3_:=A' ((by rw[hg];exact(V' (qK0 HB.out)):w.heap.size≤aB));clear HB;have HB:=n0_;have aK:=n1_;have aO:=n2_;have aM:=n3_;clear n0_ n1_ n2_ n3_;clear hb hbox hg;have aA:=A' (show IsS25 w w9 aB aC aE aF from⟨(qB aK.out),aM.out⟩))|((with_reducible refine gate_callee (f:=29) rfl ?_);refine goesL_ (some 8) rfl rfl Tryz.func29 (by kernel_rfl) rfl #[.pointer (some ⟨aB,0,none⟩),.slice A1 l1.length c1] rfl (by(try simp only[List.map_toArray,List.map_cons,List.map_nil]);first|done|rfl|(simp only[List.length_drop,List.length_take];rfl)) ?_;(with_reducible refine(spec_l07Code.calls k aB aC aE aF _ _ l1 aD aQ aS aR w _ ?aH ?aG ?aJ ?aL A3.out).mono ?_);(case aH=>repeat(first|(with_reducible first|exact aA.out|apply IsS25.alloc|apply IsS25.drewN|apply IsS25.drew|apply IsS25.set_0|apply IsS25.set_1|apply IsS25.set_2)|exact aA.out));(case aG=>repeat(first|(with_reducible first|exact HB.out|apply K'|apply F'|apply J'|refine E' ?_ (IsS25.ge aA.out))|exact HB.out));(case aJ=>exact Kd.C_foot_came k51_heap aU.out (qZ6_2 HB.out (IsS25.ge aA.out)) (IsS25.ge aA.out));(case aL=>exact aT.out);rintro e bC ⟨rfl,hi,hb,hk⟩;refine⟨_,rfl,?_⟩;replace HB:=A' (hb);replace aA:=A' (hi);(try clear hb);(try clear hb2);(try clear hk);(try clear hi)));go_ret2;exact⟨_,qE,by first|exact Kd.S_nil _ _ _ _ _|exact Kd.N_nil _ _ _ _ _|exact Kd.V_nil _ _ _ _ _|exact Kd.Q_nil _ _ _ _ _|exact Kd.R_nil _ _ _ _ _,qZ6_2 HB.out (IsS25.ge aA.out)⟩
/-! ### strings_Split: function 41 (by hand) -/
structure LwT (w:World):Prop where
  tab:Go.Lib.TabIs Tryz.prog w "internal/strconv.uint64pow10" .u64 Go.Lib.pow10Tab
  mx: ∃m,w.cell? ⟨1,0,none⟩=some (.int .i64 m)
theorem powNamed: ∃g,Tryz.prog.globalNamed "internal/strconv.uint64pow10" =some g:=Option.isSome_iff_exists.mp (by kernel_rfl)
protected theorem LwT.below {w w':World} (h:LwT w) (hb:Below w.heap.size w w'):LwT w':=by
  obtain⟨m,hm⟩:=h.mx
  obtain⟨g,hg⟩:=powNamed
  exact⟨Go.Joins.tab_stays hg h.tab hb (Nat.le_refl _),m,by rw[hb.cell (World.block_lt_of_cell? w _ hm)];exact hm⟩
def strings_Split.f (a0 a1:ByteArray):Option (List ByteArray):=if a0.size<4294967281 then(if 1≤a1.size then some (Go.Lib.splitB a1 0 (Go.Lib.countB a0 a1) a0)else none)else none
theorem reps_strings (w:World) (b:Nat) (ok:Nat→Prop): ∀xs:List ByteArray,Reps (Kd.M Kd.string w b ok) 1 xs (xs.map Value.string)
  |[]=>Reps.none _ _
  |x :: xs=>Reps.one rfl (reps_strings w b ok xs)
theorem alloc_at (W:World) (o:Obj):(W.alloc o).heap[W.heap.size]? =some o:=by show(W.heap.push o)[W.heap.size]? =_;rw[Array.getElem?_push,if_pos rfl]
theorem splitB_len (sep s:ByteArray) (h1:1≤sep.size):(Go.Lib.splitB sep 0 (Go.Lib.countB s sep) s).length=Go.Lib.countB s sep+1∧Go.Lib.countB s sep≤s.size:=
  ⟨Go.Lib.splitB_all sep h1 0 _ s rfl,Go.Lib.countB_le sep h1 s.size s (Nat.le_refl _)⟩
theorem strings_Split.calls (a0 a1:ByteArray) (r:List ByteArray) (w:World) (h:strings_Split.f a0 a1=some r) (hT:LwT w):
    Calls Tryz.prog 41 #[.string a0,.string a1] w fun e w'=>∃v0_:Value,e= .returned (v0_)∧Kd.R Kd.string 9 w' w.heap.size (fun _=>True) v0_ r∧Below w.heap.size w w':=by
  unfold strings_Split.f at h
  by_cases h0:a0.size<4294967281
  · rw[if_pos h0]at h
    by_cases h1:1≤a1.size
    · rw[if_pos h1]at h
      have h:=Option.some.inj h
      subst h
      obtain⟨m,hm⟩:=hT.mx
      have hl:=splitB_len a1 a0 h1
      refine(Tryz.strings_Split a0 a1 m w h0 hm h1).mono fun e w' ⟨he,hw⟩=>⟨_,he,?_,hw▸below_alloc (Below.refl _ _) _⟩
      rw[hw,← hl.1]
      generalize hx:Go.Lib.splitB a1 0 (Go.Lib.countB a0 a1) a0=xs at*
      have hrep: ∀w b ok,Reps (Kd.M Kd.string w b ok) 1 xs (xs.map Value.string):=fun w b ok=>reps_strings w b ok xs
      refine⟨fun _ _=>trivial,xs.map Value.string,⟨by simp[Kd.string,Kd.scalar],.inr ⟨w.heap.size,xs.length,(xs.map Value.string).toArray,rfl,Nat.le_refl _,alloc_at _ _,Nat.le_refl _,by unfold maxLen;omega,by simp[Kd.string,Kd.scalar],List.take_of_length_le (by simp[Kd.string,Kd.scalar])⟩⟩,hrep _ _ _⟩
    · rw[if_neg h1]at h;cases h
  · rw[if_neg h0]at h;cases h
/-! ### impl_Decimal: function 39 (by hand) -/
theorem below_grows (w:World) (k:Nat) (os:Array Obj):Below w.heap.size w (Go.Sort.grow (w.drewN k) os):=
  (pw_below_drewN (Below.refl w.heap.size w) k).grown (row:=none) ⟨rfl,rfl,rfl,by simp[Go.Sort.grow],fun i hi _=>by show((w.drewN k).heap ++ os)[i]? =_;rw[Array.getElem?_append_left hi]⟩ (Nat.le_refl _) (by simp)
def impl_Decimal.f (a0:Int):Option (ByteArray):=if -9223372036854775808≤a0 then(if a0≤9223372036854775807 then(some (⟨(Go.Lib.itoa a0).toArray⟩:ByteArray))else none)else none
set_option maxHeartbeats 8000000 in
set_option maxRecDepth 100000 in
theorem impl_Decimal.calls (a0:Int) (r:ByteArray) (w:World) (h:impl_Decimal.f a0=some r) (hT:LwT w):
    Calls Tryz.prog 39 #[.int .i64 a0] w fun e w'=>e= .returned (.string r)∧Below w.heap.size w w':=by
  unfold impl_Decimal.f at h
  by_cases h0: -9223372036854775808≤a0
  · rw[if_pos h0]at h
    by_cases h1:a0≤9223372036854775807
    · rw[if_pos h1]at h
      have h:=Option.some.inj h
      subst h
      have HT:=Aside0.mk hT
      clear hT
      go_enter Tryz.func39,Tryz.ntmps39
      go_wp2_with (go_at_call 59;refine(Tryz.strconv_FormatInt_10 a0 h0 h1 _ HT.out.tab).mono ?_;rintro e w' ⟨rfl,k,os,rfl⟩)
      go_ret
      exact⟨rfl,below_grows w k os⟩
    · rw[if_neg h1]at h;cases h
  · rw[if_neg h0]at h;cases h
/-! ### strings_Join: function 40 (by hand) -/
def strings_Join.f (l0:List ByteArray) (a1:ByteArray):Option (ByteArray):=if l0.length≤140737488355328 then(if(Go.Lib.join (l0.map (·.data.toList)) a1.data.toList).length≤140737488355328 then(some (⟨(Go.Lib.join (l0.map (·.data.toList)) a1.data.toList).toArray⟩:ByteArray))else none)else none
theorem strings_Join.calls (A0:Option Addr) (c0:Nat) (l0:List ByteArray) (a1:ByteArray) (r:ByteArray) (w:World) (aB:Kd.C Kd.string w A0 l0.length l0) (aA:l0.length≤c0) (h:strings_Join.f l0 a1=some r):
    Calls Tryz.prog 40 #[.slice A0 l0.length c0,.string a1] w fun e w'=>e= .returned (.string r)∧Below w.heap.size w w':=by
  unfold strings_Join.f at h
  by_cases h0:l0.length≤140737488355328
  · rw[if_pos h0]at h
    by_cases h1:(Go.Lib.join (l0.map (·.data.toList)) a1.data.toList).length≤140737488355328
    · rw[if_pos h1]at h
      have h:=Option.some.inj h
      subst h
      by_cases hz:l0= []
      · subst hz
        exact(Tryz.strings_Join_none A0 c0 a1 w).mono fun e w' ⟨he,hw⟩=>⟨he,hw▸Below.refl _ _⟩
      · have hl:0<l0.length:=List.length_pos_iff.2 hz
        obtain⟨ad,rfl,hc⟩:=aB.2.2 hl
        have cell: ∀(j:Nat) x,l0[j]? =some x→w.cell? (ad.add j)=some (.string x):=by
          intro j x hj
          obtain⟨c,h1,h2,h3⟩:=hc j x hj
          have e:c= [Value.string x]:=h2
          have:=h3 0 (.string x) (by rw[e];rfl)
          simpa [Kd.string,Kd.scalar] using this
        have first:=cell 0 _ (List.getElem?_eq_getElem hl)
        obtain⟨b,o,s⟩:=ad
        have hs:s=none:=by
          cases s with
          |none=>rfl
          |some z=>
            exfalso
            simp only[Addr.add,if_true,World.cell?]at first
            split at first <;> simp at first
        subst hs
        have hb:b<w.heap.size:=World.block_lt_of_cell? w ⟨b,o,none⟩ (by simpa [Addr.add] using first)
        refine(Tryz.strings_Join b o c0 l0 a1 w (fun j x hj=>?_) hb h0 aA h1)
        have:=cell j x hj
        by_cases hj0:j=0
        · subst hj0;simpa [Addr.add] using this
        · simpa [Addr.add,hj0] using this
    · rw[if_neg h1]at h;cases h
  · rw[if_neg h0]at h;cases h
/-! ### impl_WayText: function 16 -/
def impl_WayText.l0:Nat→List ByteArray→List (S51)→Int→Int→Option (ByteArray)
 |0,_,_,_,_=>none
 |k+1,x5,aB,aE,aA=>if aA<aE then(if 0≤aA then(if aA<(aB.length:Int)then(if 0≤((rd_T51 aB aA).f0)then(if((rd_T51 aB aA).f0)≤(wrap64 (((rd_T51 aB aA).f0)+1))then(if(wrap64 (((rd_T51 aB aA).f0)+1))≤2 then((impl_Decimal.f ((rd_T51 aB aA).f1)).bind fun aC=>(if((⟨#[102,109]⟩:ByteArray).extract (((rd_T51 aB aA).f0):Int).toNat ((wrap64 (((rd_T51 aB aA).f0)+1)):Int).toNat).size+aC.size≤9223372036854775807 then(if x5.length<8796093022208 then(impl_WayText.l0 k (x5 ++ [((⟨#[102,109]⟩:ByteArray).extract (((rd_T51 aB aA).f0):Int).toNat ((wrap64 (((rd_T51 aB aA).f0)+1)):Int).toNat) ++ aC]) aB aE (wrap64 (aA+1)))else(none))else(none)))else(none))else(none))else(none))else(none))else(none))else((strings_Join.f x5 (⟨#[32]⟩:ByteArray)).bind fun aD=>(some aD))
def impl_WayText.f (k:Nat) (aA:Int) (aB:Int) (aD:Bool) (l1:List (S51)):Option (ByteArray):=(impl_wayCode.f k aA aB aD l1).bind fun aC=>(if aC=0 then(impl_WayText.l0 k (([]:List ByteArray)) l1 (l1.length:Int) 0)else(some (⟨#[]⟩:ByteArray)))
theorem impl_WayText.mono_l: ∀k,(∀y0 y1 y2 y3,LeO (impl_WayText.l0 k y0 y1 y2 y3) (impl_WayText.l0 (k+1) y0 y1 y2 y3))
 |0=>fun _ _ _ _ r h=>by simp[impl_WayText.l0]at h
 |k+1=>by
  have aA:=impl_WayText.mono_l k
  ·intro y0 y1 y2 y3
   unfold impl_WayText.l0
   repeat' first
   |(with_reducible exact aA _ _ _ _)
   |(with_reducible exact impl_wayCode.mono _ _ _ _ _)
   |(with_reducible exact LeO.refl _)
   |(with_reducible exact LeO.none _)
   |(with_reducible refine LeO.ite ?_ ?_)
   |(with_reducible refine LeO.bind ?_ (fun _=>?_))
   |exact LeO.none _
   |refine LeO.ite ?_ ?_
   |refine LeO.bind ?_ (fun _=>?_)
theorem impl_WayText.mono: ∀a0 a1 a2 a3 k,LeO (impl_WayText.f k a0 a1 a2 a3) (impl_WayText.f (k+1) a0 a1 a2 a3):=by
 intro a0 a1 a2 a3 k
 have aA:=impl_WayText.mono_l k
 unfold impl_WayText.f
 repeat' first
   |(with_reducible exact aA _ _ _ _)
   |(with_reducible exact impl_wayCode.mono _ _ _ _ _)
   |(with_reducible exact LeO.refl _)
   |(with_reducible exact LeO.none _)
   |(with_reducible refine LeO.ite ?_ ?_)
   |(with_reducible refine LeO.bind ?_ (fun _=>?_))
   |exact LeO.none _
   |refine LeO.ite ?_ ?_
   |refine LeO.bind ?_ (fun _=>?_)
def impl_WayText.T7:Bool×List (List Nat×List Nat):=(true,[([],[]),([],[]),([1],[1]),([],[]),([3],[3]),([4],[4]),([2,5],[2,5]),([],[]),([7],[7]),([8],[8]),([6,9],[6,9]),([10],[10]),([0,11,9],[0,11]),([12,12,0,1,2,3,4,5,6,7,8,9,10,11,12],[0,12])])
def impl_WayText.B7:List Nat:=[0,0,2,0,8,24,62,0,128,384,1022,2046,4095,8191]
theorem impl_WayText.tab7:rtab .any (opsOf Tryz.f16 7)=impl_WayText.T7:=by kernel_rfl
theorem impl_WayText.bits7:waitsOk impl_WayText.T7.2 impl_WayText.B7=true:=by kernel_rfl
set_option maxHeartbeats 8000000 in
set_option maxRecDepth 100000 in
theorem impl_WayText.calls (k:Nat) (aJ:Int) (aI:Int) (aK:Bool) (A1:Option Addr) (c1:Nat) (l1:List (S51)) (r:ByteArray) (w:World) (cN:Kd.C k51 w A1 l1.length l1) (cU:l1.length≤c1) (h:impl_WayText.f k aJ aI aK l1=some r) (hT:LwT w):
  Calls Tryz.prog 16 #[.agg #[.int .i64 aJ,.int .i64 aI,.bool aK],.slice A1 l1.length c1] w fun e w'=>e= .returned (.string r)∧Below w.heap.size w w':=by
 have HT:=A' hT;clear hT;have dC:=Tryz.underlying25;have cZ:=Tryz.underlying51;have cM:=A' cN;have cT:=A' cU;clear cN cU;have HB:=A' (Below.refl w.heap.size w);have H:((impl_wayCode.f k aJ aI aK l1).bind fun aQ=>(if aQ=0 then(impl_WayText.l0 k (([]:List ByteArray)) l1 (l1.length:Int) 0)else(some (⟨#[]⟩:ByteArray))))=some r:=h;clear h;replace H:=Option.bind_eq_some_iff.mp H;obtain⟨aQ,cQ,H⟩:=H;replace H:(if aQ=0 then(impl_WayText.l0 k (([]:List ByteArray)) l1 (l1.length:Int) 0)else(some (⟨#[]⟩:ByteArray)))=some r:=H;have A3:=A' cQ;clear cQ
 by_cases c4:aQ=0
 ·rw[if_pos c4]at H;have c4b0:(aQ == 0)=true:=beq_iff_eq.mpr c4;have c4b1:(aQ != 0)=false:=bne_eq_false_iff_eq.mpr c4;clear c4;obtain⟨bL,aU⟩: ∃y_:List ByteArray,y_=(([]:List ByteArray)):=⟨_,rfl⟩
  replace H:(impl_WayText.l0 k bL l1 (l1.length:Int) 0)=some r:=by first|(rw[aU];with_reducible exact H)|(have H2_:=(Option.bind_some _ _).symm.trans H;rw[aU];with_reducible exact H2_)|(have H2_:=(Option.bind_some _ _).symm.trans H;with_reducible exact H2_)|with_reducible exact H|(rw[aU];exact H)|exact H
  have bB:=A' aU;clear aU;have H':=A' H;clear H;go_enter Tryz.func16,Tryz.ntmps16;go_wp2_with (first|((with_reducible refine gate_dst (N:=2) rfl ?_);refine box_event ?hg (N:=2) ?hd (cs:=#[.int .i64 aJ,.int .i64 aI,.bool aK]) (t:=25) ?hr ?_;(case hd=>rfl);(case hg=>rfl);(case hr=>first|(go_simp;done)|(go_simp;rfl));intro aE hg w5 hbox hb;have n0_:=A' (W' (qK0 HB.out) hb);have n1_:=A' (hbox);have n2_:=A' ((by rw[hg];exact(V' (qK0 HB.out)):w.heap.size≤aE));have n3_:=A' ((by rw[hg];exact(V' (qK0 HB.out)):w.heap.size≤aE));clear HB;have HB:=n0_;have aC:=n1_;have bP:=n2_;have aH:=n3_;clear n0_ n1_ n2_ n3_;clear hb hbox hg;have bF:w5.cell? ⟨aE,0,none⟩=some (.int .i64 aJ):=(N' aC.out 0).trans rfl;have bJ:w5.cell? ⟨aE,1,none⟩=some (.int .i64 aI):=(N' aC.out 1).trans rfl;have bK:w5.cell? ⟨aE,2,none⟩=some (.bool aK):=(N' aC.out 2).trans rfl;have bC:=Y' aC.out 0;have bI:=Y' aC.out 1;have bH:=Y' aC.out 2)|((with_reducible refine gate_callee (f:=27) rfl ?_);refine goesL_ (some 10) rfl rfl Tryz.func27 (by kernel_rfl) rfl #[.agg #[.int .i64 aJ,.int .i64 aI,.bool aK],.slice A1 l1.length c1] rfl (by(try simp only[List.map_toArray,List.map_cons,List.map_nil]);first|done|rfl|(simp only[List.length_drop,List.length_take];rfl)) ?_;(with_reducible refine(impl_wayCode.calls k aJ aI aK _ _ l1 aQ _ ?aX ?aW A3.out).mono ?_);(case aX=>exact qT (X' cM.out HB.out));(case aW=>exact cT.out);rintro e w7 ⟨rfl,hb⟩;refine⟨_,rfl,?_⟩;replace aC:=A' (O' (g:=aE) (qB aC.out) hb);replace HB:=A' (W' (qK1 HB.out aH.out) hb);(try clear hb);(try clear hb2);(try clear hk);(try clear hi))|((with_reducible refine gate_dst (N:=12) rfl ?_);refine Kd.R_lit Kd.string _ 9 ?hg (N:=12) ?hd (xs:=([]:List ByteArray)) (inner:=[]) (ok:=fun _=>True) (okp:=fun _=>True) ?hr ?hp (fun _ hk=>hk) trivial (Below.refl _ _) (Nat.le_refl _) (by simp) ?_;(case hd=>rfl);(case hg=>rfl);(case hr=>first|(go_simp;done)|(go_simp;rfl));(case hp=>exact(Reps.none _ _));intro dB w8 bR hb hg_ hnew_;clear hg_ hnew_;(first|rw[← bB.out]at bR|(simp only[Int.reduceToNat]at bR;rw[← bB.out]at bR));have n0_:=A' (Kd.R_lower bR (V' (qK1 HB.out aH.out)));have n1_:=A' (O' (g:=aE) (qB aC.out) hb);have n2_:=A' (W' (qK1 HB.out aH.out) hb);clear aC;clear HB;have bN:=n0_;have aC:=n1_;have HB:=n2_;clear n0_ n1_ n2_;clear hb bR))
  go_loopg [5,15] k (fun kq v5 cX w'=>∃(aN:List ByteArray) (aA:Int),cX= .int .i64 aA∧Aside0 (impl_WayText.l0 kq aN l1 (l1.length:Int) aA=some r)∧Aside0 (kq≤k)∧Aside0 (Kd.R Kd.string 9 w' w.heap.size (fun _=>True) v5 aN)∧Aside0 (w'.heap[aE]? =some (.cells #[.int .i64 aJ,.int .i64 aI,.bool aK] 25 (0,0)))∧Aside0 (Below w.heap.size w w'))
  case atStart=>exact⟨(bL),(0),qS,H',⟨Nat.le_refl _⟩,⟨qR bN.out⟩,⟨qB aC.out⟩,⟨qK1 HB.out aH.out⟩⟩
  case round=>
   clear H';try clear c1
   try clear c2
   try clear p2
   try clear c4
   try clear c4b0
   try clear c4b1
   try clear bF
   try clear bJ
   try clear bK
   try clear bC
   try clear bI
   try clear bH
   obtain⟨aN,aA,rfl,HA,cV,HO_5,aC,HB⟩:=hrel
   cases gk with
   |zero=>exact absurd HA.out (by simp[impl_WayText.l0])
   |succ k1=>
    have H:=HA.out;clear HA;simp only[impl_WayText.l0]at H
    by_cases c10:aA<(l1.length:Int)
    ·rw[if_pos c10]at H;have c10b0:decide (aA<(l1.length:Int))=true:=dT' c10;clear c10
     by_cases c11:0≤aA
     ·rw[if_pos c11]at H;have c11b0:decide (0≤aA)=true:=dT' c11;clear c11
      by_cases c12:aA<(l1.length:Int)
      ·rw[if_pos c12]at H;have c12b0:decide (aA<(l1.length:Int))=true:=dT' c12;clear c12
       by_cases c13:0≤((rd_T51 l1 aA).f0)
       ·rw[if_pos c13]at H;have c13b0:=eq_true c13;have c13b1:decide (0≤((rd_T51 l1 aA).f0))=true:=dT' c13;clear c13
        by_cases c14:((rd_T51 l1 aA).f0)≤(wrap64 (((rd_T51 l1 aA).f0)+1))
        ·rw[if_pos c14]at H;have c14b0:=eq_true c14;have c14b1:decide (((rd_T51 l1 aA).f0)≤(wrap64 (((rd_T51 l1 aA).f0)+1)))=true:=dT' c14
         by_cases c15:(wrap64 (((rd_T51 l1 aA).f0)+1))≤2
         ·rw[if_pos c15]at H;have c15b0:=eq_true c15;have c15b1:decide ((wrap64 (((rd_T51 l1 aA).f0)+1))≤2)=true:=dT' c15;replace H:=Option.bind_eq_some_iff.mp H;obtain⟨aR,bQ,H⟩:=H;replace H:(if((⟨#[102,109]⟩:ByteArray).extract (((rd_T51 l1 aA).f0):Int).toNat ((wrap64 (((rd_T51 l1 aA).f0)+1)):Int).toNat).size+aR.size≤9223372036854775807 then(if aN.length<8796093022208 then(impl_WayText.l0 k1 (aN ++ [((⟨#[102,109]⟩:ByteArray).extract (((rd_T51 l1 aA).f0):Int).toNat ((wrap64 (((rd_T51 l1 aA).f0)+1)):Int).toNat) ++ aR]) l1 (l1.length:Int) (wrap64 (aA+1)))else(none))else(none))=some r:=H;have dD:=A' bQ;clear bQ
          by_cases c17:((⟨#[102,109]⟩:ByteArray).extract (((rd_T51 l1 aA).f0):Int).toNat ((wrap64 (((rd_T51 l1 aA).f0)+1)):Int).toNat).size+aR.size≤9223372036854775807
          ·rw[if_pos c17]at H;have c17b0:=eq_true c17;have c17b1:decide (((⟨#[102,109]⟩:ByteArray).extract (((rd_T51 l1 aA).f0):Int).toNat ((wrap64 (((rd_T51 l1 aA).f0)+1)):Int).toNat).size+aR.size≤9223372036854775807)=true:=dT' c17;try have c17b2:(9223372036854775807<((⟨#[102,109]⟩:ByteArray).extract (((rd_T51 l1 aA).f0):Int).toNat ((wrap64 (((rd_T51 l1 aA).f0)+1)):Int).toNat).size+aR.size)=False:=eq_false (Nat.not_lt.2 c17)
           try have c17b7:(9223372036854775807<(wrap64 (((rd_T51 l1 aA).f0)+1)).toNat - ((rd_T51 l1 aA).f0).toNat+aR.size)=False:=eq_false (Nat.not_lt.2 (by have h_:=c17;have g_:((wrap64 (((rd_T51 l1 aA).f0)+1)):Int)≤2:=oD' (by assumption);simp only[ByteArray.size_extract]at h_;rw[Nat.min_eq_left (by show _≤2;omega)]at h_;exact h_))
           by_cases c18:aN.length<8796093022208
           ·rw[if_pos c18]at H;have bV:=A' c18;clear c18;obtain⟨bO,aV⟩: ∃y_:List ByteArray,y_=(aN ++ [((⟨#[102,109]⟩:ByteArray).extract (((rd_T51 l1 aA).f0):Int).toNat ((wrap64 (((rd_T51 l1 aA).f0)+1)):Int).toNat) ++ aR]):=⟨_,rfl⟩
            replace H:(impl_WayText.l0 k1 bO l1 (l1.length:Int) (wrap64 (aA+1)))=some r:=by first|(rw[aV];with_reducible exact H)|(have H2_:=(Option.bind_some _ _).symm.trans H;rw[aV];with_reducible exact H2_)|(have H2_:=(Option.bind_some _ _).symm.trans H;with_reducible exact H2_)|with_reducible exact H|(rw[aV];exact H)|exact H
            have bS:=A' aV;clear aV;have H':=A' H;clear H;have bD:0≤(aA:Int):=oD' qA;have bE:aA<(l1.length:Int):=oD' qA;obtain⟨cS,cJ,aZ,aY⟩:=at_T51 cM.out aA bD bE
            cases cJ
            try replace aZ:=qC HB.out aZ
            try replace aY:=qC HB.out aY
            replace bD:=eq_true bD;replace bE:=eq_true bE;try go_wp2_with (first|((with_reducible refine gate_dst (N:=7) rfl ?_);refine box_event ?hg (N:=7) ?hd (cs:=#[.int .i64 0,.int .i64 0]) (t:=51) ?hr ?_;(case hd=>rfl);(case hg=>rfl);(case hr=>first|(go_simp;done)|(go_simp;rfl));intro aG hg bG hbox hb;have n0_:=A' (L' (qR HO_5.out) hb);have n1_:=A' (O' (g:=aE) (qB aC.out) hb);have n2_:=A' (W' (qK1 HB.out aH.out) hb);have n3_:=A' (hbox);have n4_:=A' ((by rw[hg];exact(V' (qK1 HB.out aH.out)):w.heap.size≤aG));have n5_:=A' ((by rw[hg];exact(V' (qK1 HB.out aH.out)):w.heap.size≤aG));have n6_:=A' ((by rw[hg];exact Nat.ne_of_lt (bL' (g:=aE) (qB aC.out)):aE≠aG));have n7_:=A' ((by rw[hg];exact Nat.ne_of_gt (bL' (g:=aE) (qB aC.out)):aG≠aE));clear HO_5;clear aC;clear HB;have HO_5:=n0_;have aC:=n1_;have HB:=n2_;have aD:=n3_;have cR:=n4_;have aT:=n5_;have aM:=n6_;have bA:=n7_;clear n0_ n1_ n2_ n3_ n4_ n5_ n6_ n7_;clear hb hbox hg;have cP:=bA.out;have cO:=aM.out;have bY:bG.cell? ⟨aG,0,none⟩=some (.int .i64 0):=(N' aD.out 0).trans rfl;have bW:bG.cell? ⟨aG,1,none⟩=some (.int .i64 0):=(N' aD.out 1).trans rfl;have cC:=Y' aD.out 0;have cE:=Y' aD.out 1))
            have n0_:Aside0 (Kd.R Kd.string 9 ((bG.setCell ⟨aG,0,none⟩ (.int .i64 ((rd_T51 l1 aA).f0))).setCell ⟨aG,1,none⟩ (.int .i64 ((rd_T51 l1 aA).f1))) w.heap.size (fun _=>True) u5 aN):=⟨by(with_reducible repeat(first|apply B'|apply C'|apply D'));exact Q' (M' (p:=⟨aG,1,none⟩) (M' (p:=⟨aG,0,none⟩) (P' HO_5.out aD.out (by decide)) (fun _ hk=>hk.2) (.int .i64 ((rd_T51 l1 aA).f0))) (fun _ hk=>hk.2) (.int .i64 ((rd_T51 l1 aA).f1))) (fun _ hk=>trivial)⟩
            have n1_:Aside0 (((bG.setCell ⟨aG,0,none⟩ (.int .i64 ((rd_T51 l1 aA).f0))).setCell ⟨aG,1,none⟩ (.int .i64 ((rd_T51 l1 aA).f1))).heap[aE]? =some (.cells #[.int .i64 aJ,.int .i64 aI,.bool aK] 25 (0,0))):=⟨qG2 aC.out aM.out aM.out⟩
            have n2_:Aside0 (((bG.setCell ⟨aG,0,none⟩ (.int .i64 ((rd_T51 l1 aA).f0))).setCell ⟨aG,1,none⟩ (.int .i64 ((rd_T51 l1 aA).f1))).heap[aG]? =some (.cells #[.int .i64 ((rd_T51 l1 aA).f0),.int .i64 ((rd_T51 l1 aA).f1)] 51 (0,0))):=⟨by(with_reducible repeat(first|refine G' ?_ _|refine I' ?_|refine hA' ?_ _));refine blk_put (cs:=#[.int .i64 ((rd_T51 l1 aA).f0),.int .i64 0]) ?_ 1 _ rfl;(with_reducible repeat(first|refine G' ?_ _|refine I' ?_|refine hA' ?_ _));refine blk_put (cs:=#[.int .i64 0,.int .i64 0]) ?_ 0 _ rfl;(with_reducible repeat(first|refine G' ?_ _|refine I' ?_|refine hA' ?_ _));exact aD.out⟩
            have n3_:Aside0 (Below w.heap.size w ((bG.setCell ⟨aG,0,none⟩ (.int .i64 ((rd_T51 l1 aA).f0))).setCell ⟨aG,1,none⟩ (.int .i64 ((rd_T51 l1 aA).f1)))):=⟨qK2 HB.out aH.out aT.out⟩
            (try clear HO_5);(try clear aC);(try clear aD);(try clear HB)
            generalize ((bG.setCell ⟨aG,0,none⟩ (.int .i64 ((rd_T51 l1 aA).f0))).setCell ⟨aG,1,none⟩ (.int .i64 ((rd_T51 l1 aA).f1)))=dA at n0_ n1_ n2_ n3_ ⊢
            have HO_5:=n0_;have aC:=n1_;have aD:=n2_;have HB:=n3_;clear n0_ n1_ n2_ n3_;replace HO_5:=A' (D' HO_5.out);replace aC:=A' (I' aC.out);replace aD:=A' (I' aD.out);replace HB:=A' (J' HB.out);refine start_ (n:=14) (S:=fun w'=>w'.cell? ⟨aG,0,none⟩=some (.int .i64 ((rd_T51 l1 aA).f0))∧w'.cell? ⟨aG,1,none⟩=some (.int .i64 ((rd_T51 l1 aA).f1))) (ds:=[]) #[n',n',n',n',n',n',n',n',n',n',n',n',n',n'] (by kernel_rfl) rfl rfl ⟨(N' aD.out 0).trans rfl,(N' aD.out 1).trans rfl⟩ (fun hHeld=>?_);refine with_tabW impl_WayText.tab7 impl_WayText.bits7 (fun HT_ HW_=>?_)
            generalize dA.drew=w23 at HO_5 aC aD HB hHeld ⊢
            refine pure_ (i:=0) (N:=some 19) (v:=?_) (a':=?_) #[y',n',n',n',n',n',n',n',n',n',n',n',n',n'] rfl rfl (any_of HT_.out (by kernel_rfl)) (fun _ _ _ h=>h) (Or.inl ⟨by rfl,?_⟩) ?_ ?_;rotate_left
            ·exact qI
            rotate_left
            ·exact qP
            refine pure_ (i:=1) (N:=some 20) (v:=?_) (a':=?_) #[y',y',n',n',n',n',n',n',n',n',n',n',n',n'] rfl rfl (any_of HT_.out (by kernel_rfl)) (fun _ _ _ h=>h) (Or.inl ⟨by rfl,?_⟩) ?_ ?_;rotate_left
            ·exact qI
            rotate_left
            ·exact qP
            refine pure_ (i:=3) (N:=some 22) (v:=?_) (a':=?_) #[y',y',n',y',n',n',n',n',n',n',n',n',n',n'] rfl rfl (any_of HT_.out (by kernel_rfl)) (fun _ _ _ h=>h) (Or.inl ⟨by rfl,?_⟩) ?_ ?_;rotate_left
            ·exact qI
            rotate_left
            ·exact qP
            refine pure_ (i:=7) (N:=some 26) (v:=?_) (a':=?_) #[y',y',n',y',n',n',n',y',n',n',n',n',n',n'] rfl rfl (any_of HT_.out (by kernel_rfl)) (fun _ _ _ h=>h) (Or.inl ⟨by rfl,?_⟩) ?_ ?_;rotate_left
            ·exact qI
            rotate_left
            ·exact qP
            refine take_ (i:=2) (N:=some 21) (v:=?_) (a':=?_) #[y',y',y',y',n',n',n',y',n',n',n',n',n',n'] rfl rfl (take_ofW HT_.out HW_.out (by kernel_rfl)) (fun _ _ _ h=>h) (Or.inl ⟨by rfl,?_⟩) hHeld ?_ ?_;rotate_left
            ·rintro w' ⟨s0,s1⟩;go_simp;with_reducible rfl
            rotate_left
            ·exact qP
            refine take_ (i:=4) (N:=some 23) (v:=?_) (a':=?_) #[y',y',y',y',y',n',n',y',n',n',n',n',n',n'] rfl rfl (take_ofW HT_.out HW_.out (by kernel_rfl)) (fun _ _ _ h=>h) (Or.inl ⟨by rfl,?_⟩) hHeld ?_ ?_;rotate_left
            ·rintro w' ⟨s0,s1⟩;go_simp;with_reducible rfl
            rotate_left
            ·exact qP
            refine pure_ (i:=5) (N:=some 24) (v:=?_) (a':=?_) #[y',y',y',y',y',y',n',y',n',n',n',n',n',n'] rfl rfl (any_of HT_.out (by kernel_rfl)) (fun _ _ _ h=>h) (Or.inl ⟨by rfl,?_⟩) ?_ ?_;rotate_left
            ·exact qI
            rotate_left
            ·exact qP
            refine pure_ (i:=6) (N:=some 25) (v:=?_) (a':=?_) #[y',y',y',y',y',y',y',y',n',n',n',n',n',n'] rfl rfl (any_of HT_.out (by kernel_rfl)) (fun _ _ _ h=>h) (Or.inl ⟨by rfl,?_⟩) ?_ ?_;rotate_left
            ·exact qI
            rotate_left
            ·exact qP
            refine take_ (i:=8) (N:=some 27) (v:=?_) (a':=?_) #[y',y',y',y',y',y',y',y',y',n',n',n',n',n'] rfl rfl (take_ofW HT_.out HW_.out (by kernel_rfl)) (fun _ _ _ h=>h) (Or.inl ⟨by rfl,?_⟩) hHeld ?_ ?_;rotate_left
            ·rintro w' ⟨s0,s1⟩;go_simp;with_reducible rfl
            rotate_left
            ·exact qP
            refine one_ (i:=9) (N:=some 28) #[y',y',y',y',y',y',y',y',y',y',n',n',n',n'] rfl rfl (one_of HT_.out (by kernel_rfl)) (by decide) (fun K hK=>?_);refine goes_ Tryz.func39 (by kernel_rfl) rfl #[.int .i64 ((rd_T51 l1 aA).f1)] (by rfl) rfl rfl (by(try simp only[List.map_toArray,List.map_cons,List.map_nil]);first|done|rfl|(simp only[List.length_drop,List.length_take];rfl)) ?_
            with_reducible refine(impl_Decimal.calls ((rd_T51 l1 aA).f1) aR _ dD.out (HT.out.below (qK2 HB.out aH.out aT.out))).mono ?_
            rintro e dH ⟨rfl,hb⟩;refine⟨_,rfl,?_⟩;replace HO_5:=A' (L' (qR HO_5.out) hb);replace aC:=A' (O' (g:=aE) (qB aC.out) hb);replace aD:=A' (O' (g:=aG) (qB aD.out) hb);replace HB:=A' (W' (qK2 HB.out aH.out aT.out) hb);(try clear hb);(try clear hb2);(try clear hk);(try clear hi);refine hK.out _ _ ⟨(N' aD.out 0).trans rfl,(N' aD.out 1).trans rfl⟩ (fun hHeld=>?_);clear hK K;refine norm_ (a':=?_) ?_ ?_;rotate_left
            ·show Act.put _ (some 28) _=_
             exact qP
            refine pure_ (i:=10) (N:=some 29) (v:=?_) (a':=?_) #[y',y',y',y',y',y',y',y',y',y',y',n',n',n'] rfl rfl (any_of HT_.out (by kernel_rfl)) (fun _ _ _ h=>h) (Or.inl ⟨by rfl,?_⟩) ?_ ?_;rotate_left
            ·exact qI
            rotate_left
            ·exact qP
            refine one_ (i:=11) (N:=some 30) #[y',y',y',y',y',y',y',y',y',y',y',y',n',n'] rfl rfl (one_of HT_.out (by kernel_rfl)) (by decide) (fun K hK=>?_);refine value_ (w1:=?_) (v:=?_) (by rfl) rfl ?_ ?_;rotate_left 2
            ·go_simp
             constructor
             ·rfl
             ·rfl
            refine hK.out _ _ ⟨(N' (hA' aD.out _) 0).trans rfl,(N' (hA' aD.out _) 1).trans rfl⟩ (fun hHeld=>?_);clear hK K;refine norm_ (a':=?_) ?_ ?_;rotate_left
            ·show Act.put _ (some 30) _=_
             exact qP
            refine one_ (i:=12) (N:=some 31) #[y',y',y',y',y',y',y',y',y',y',y',y',y',n'] rfl rfl (one_of HT_.out (by kernel_rfl)) (by decide) (fun K hK=>?_);refine Kd.R_append_step Kd.string (w0:=w) w.heap.size (by rfl) (.tmp 19) (.tmp 30) 65 9 (.string ⟨#[]⟩) 16 rfl Tryz.underlying65 info9 rfl (by decide) (by omega) u5 aN (((⟨#[102,109]⟩:ByteArray).extract (((rd_T51 l1 aA).f0):Int).toNat ((wrap64 (((rd_T51 l1 aA).f0)+1)):Int).toNat) ++ aR) [.string (((⟨#[102,109]⟩:ByteArray).extract (((rd_T51 l1 aA).f0):Int).toNat ((wrap64 (((rd_T51 l1 aA).f0)+1)):Int).toNat) ++ aR)] (fun _=>True) (fun _=>False) rfl rfl ?aP (fun _ hk=>hk.elim) ?aF ?aO ?aB ?aS ?aL ?_;(case aP=>exact rfl);(case aB=>exact(qK2 HB.out aH.out aT.out));(case aF=>exact(fun _ _=>trivial));(case aO=>exact(qR HO_5.out));(case aS=>exact(V' (qK2 HB.out aH.out aT.out)));(case aL=>have:=bV.out;omega);intro cY dE ho hb hg hat;rw[← bS.out]at ho;have n0_:=A' (blk_grown (g:=aE) (o:=.cells #[.int .i64 aJ,.int .i64 aI,.bool aK] 25 (0,0)) (qB aC.out) hg (Kd.R_ne HO_5.out aC.out (by decide)));have n1_:=A' (blk_grown (g:=aG) (o:=.cells #[.int .i64 ((rd_T51 l1 aA).f0),.int .i64 ((rd_T51 l1 aA).f1)] 51 (0,0)) (qB aD.out) hg (Kd.R_ne HO_5.out aD.out (by decide)));have n2_:=A' (hb);have n3_:=A' (ho);clear aC;clear aD;clear HB;clear HO_5;have aC:=n0_;have aD:=n1_;have HB:=n2_;have bU:=n3_;clear n0_ n1_ n2_ n3_;clear ho hb hg hat;refine hK.out _ _ ⟨(N' aD.out 0).trans rfl,(N' aD.out 1).trans rfl⟩ (fun hHeld=>?_);clear hK K;refine norm_ (a':=?_) ?_ ?_;rotate_left
            ·show Act.put _ (some 31) _=_
             exact qP
            refine pure_ (i:=13) (N:=some 5) (v:=?_) (a':=?_) #[y',y',y',y',y',y',y',y',y',y',y',y',y',y'] rfl rfl (any_of HT_.out (by kernel_rfl)) (fun _ _ _ h=>h) (Or.inl ⟨by rfl,?_⟩) ?_ ?_;rotate_left
            ·exact qI
            rotate_left
            ·exact qP
            refine done_ (done_of HT_.out (by kernel_rfl)) ?_;try go_wp2
            go_roundg k1
            case measure=>have:=cV.out;omega
            case rel=>exact⟨(bO),(wrap64 (aA+1)),qS,H',⟨by have:=cV.out;omega⟩,⟨qR bU.out⟩,⟨qB aC.out⟩,⟨qK2 HB.out aH.out aT.out⟩⟩
           ·rw[if_neg c18]at H;exact absurd H (by simp)
          ·rw[if_neg c17]at H;exact absurd H (by simp)
         ·rw[if_neg c15]at H;exact absurd H (by simp)
        ·rw[if_neg c14]at H;exact absurd H (by simp)
       ·rw[if_neg c13]at H;exact absurd H (by simp)
      ·rw[if_neg c12]at H;exact absurd H (by simp)
     ·rw[if_neg c11]at H;exact absurd H (by simp)
    ·rw[if_neg c10]at H;have c10b0:decide (aA<(l1.length:Int))=false:=dF' c10;clear c10;replace H:=Option.bind_eq_some_iff.mp H;obtain⟨bT,bM,H⟩:=H;replace H:(some bT)=some r:=H;have cW:=A' bM;clear bM;obtain rfl:=Option.some.inj H;obtain⟨cI,cL,cK⟩:=Kd.R_slice HO_5.out;subst cK;go_wp2_with (first|((with_reducible refine gate_callee (f:=40) rfl ?_);refine goesL_ (some 34) rfl rfl Tryz.func40 (by kernel_rfl) rfl #[.slice cI aN.length cL,.string (⟨#[32]⟩:ByteArray)] rfl (by(try simp only[List.map_toArray,List.map_cons,List.map_nil]);first|done|rfl|(simp only[List.length_drop,List.length_take];rfl)) ?_;(with_reducible refine(strings_Join.calls _ _ aN (⟨#[32]⟩:ByteArray) bT _ ?aX ?aW cW.out).mono ?_);(case aX=>repeat(first|exact(Kd.R_reads' HO_5.out).2.2|(with_reducible refine R' ?_ _)|(with_reducible refine S' ?_ _)|(with_reducible refine T' ?_)));(case aW=>exact(Kd.R_reads' HO_5.out).2.1);rintro e dG ⟨rfl,hb⟩;refine⟨_,rfl,?_⟩;replace HO_5:=A' (L' (qR HO_5.out) hb);replace aC:=A' (O' (g:=aE) (qB aC.out) hb);replace HB:=A' (W' (qK1 HB.out aH.out) hb);(try clear hb);(try clear hb2);(try clear hk);(try clear hi)));go_ret;exact⟨qE,qK1 HB.out aH.out⟩
 ·rw[if_neg c4]at H;have c4b0:(aQ == 0)=false:=beq_eq_false_iff_ne.mpr c4;have c4b1:(aQ != 0)=true:=bne_iff_ne.mpr c4;obtain rfl:=Option.some.inj H;go_enter Tryz.func16,Tryz.ntmps16;go_wp2_with (first|((with_reducible refine gate_dst (N:=2) rfl ?_);refine box_event ?hg (N:=2) ?hd (cs:=#[.int .i64 aJ,.int .i64 aI,.bool aK]) (t:=25) ?hr ?_;(case hd=>rfl);(case hg=>rfl);(case hr=>first|(go_simp;done)|(go_simp;rfl));intro aE hg cH hbox hb;have n0_:=A' (W' (qK0 HB.out) hb);have n1_:=A' (hbox);have n2_:=A' ((by rw[hg];exact(V' (qK0 HB.out)):w.heap.size≤aE));have n3_:=A' ((by rw[hg];exact(V' (qK0 HB.out)):w.heap.size≤aE));clear HB;have HB:=n0_;have aC:=n1_;have bP:=n2_;have aH:=n3_;clear n0_ n1_ n2_ n3_;clear hb hbox hg;have cF:cH.cell? ⟨aE,0,none⟩=some (.int .i64 aJ):=(N' aC.out 0).trans rfl;have cG:cH.cell? ⟨aE,1,none⟩=some (.int .i64 aI):=(N' aC.out 1).trans rfl;have cD:cH.cell? ⟨aE,2,none⟩=some (.bool aK):=(N' aC.out 2).trans rfl;have bZ:=Y' aC.out 0;have bX:=Y' aC.out 1;have cA:=Y' aC.out 2)|((with_reducible refine gate_callee (f:=27) rfl ?_);refine goesL_ (some 10) rfl rfl Tryz.func27 (by kernel_rfl) rfl #[.agg #[.int .i64 aJ,.int .i64 aI,.bool aK],.slice A1 l1.length c1] rfl (by(try simp only[List.map_toArray,List.map_cons,List.map_nil]);first|done|rfl|(simp only[List.length_drop,List.length_take];rfl)) ?_;(with_reducible refine(impl_wayCode.calls k aJ aI aK _ _ l1 aQ _ ?aX ?aW A3.out).mono ?_);(case aX=>exact qT (X' cM.out HB.out));(case aW=>exact cT.out);rintro e dF ⟨rfl,hb⟩;refine⟨_,rfl,?_⟩;replace aC:=A' (O' (g:=aE) (qB aC.out) hb);replace HB:=A' (W' (qK1 HB.out aH.out) hb);(try clear hb);(try clear hb2);(try clear hk);(try clear hi)));go_ret;exact⟨qE,qK1 HB.out aH.out⟩
/-! ### strings_TrimPrefix: function 64 (by hand) -/
def strings_TrimPrefix.f (a0 a1:ByteArray):Option (ByteArray):=some (⟨(Go.Lib.trimPrefix a0.data.toList a1.data.toList).toArray⟩:ByteArray)
theorem strings_TrimPrefix.calls (a0 a1:ByteArray) (r:ByteArray) (w:World) (h:strings_TrimPrefix.f a0 a1=some r):
    Calls Tryz.prog 64 #[.string a0,.string a1] w fun e w'=>e= .returned (.string r)∧Drawn0 w w':=by
  have h:(⟨(Go.Lib.trimPrefix a0.data.toList a1.data.toList).toArray⟩:ByteArray)=r:=Option.some.inj h
  subst h
  exact(Tryz.strings_TrimPrefix a0 a1 w).mono fun e w' ⟨he,hw⟩=>⟨he,hw▸Drawn0.refl _⟩
/-! ### impl_ReadDecimal: function 42 -/
mutual
def impl_ReadDecimal.j0:Nat→ByteArray→ByteArray→Bool→Option (Int×Bool)
 |0,_,_,_=>none
 |k+1,x0,x4,aA=>if aA=true then(some (0,false))else(impl_ReadDecimal.l0 k x0 x4 0 0)
def impl_ReadDecimal.l0:Nat→ByteArray→ByteArray→Int→Int→Option (Int×Bool)
 |0,_,_,_,_=>none
 |k+1,x0,x4,x5,x6=>if x6<(x4.size:Int)then(if 0≤x6 then(if(bt x4 x6)<48 then(some (0,false))else(if(bt x4 x6) > 57 then(some (0,false))else(impl_ReadDecimal.l0 k x0 x4 (wrap64 ((wrap64 (10*x5))+(((bt x4 x6) - 48) % 256))) (wrap64 (x6+1)))))else(none))else(if(x4.size:Int)<(x0.size:Int)then((impl_Decimal.f (wrap64 (-x5))).bind fun aB=>(if aB.toList=x0.toList then(some (wrap64 (-x5),true))else(some (0,false))))else((impl_Decimal.f x5).bind fun aA=>(if aA.toList=x0.toList then(some (x5,true))else(some (0,false)))))
end
def impl_ReadDecimal.f (k:Nat) (a0:ByteArray):Option (Int×Bool):=(strings_TrimPrefix.f a0 (⟨#[45]⟩:ByteArray)).bind fun aA=>(if(aA.size:Int)<1 then(impl_ReadDecimal.j0 k a0 aA true)else(impl_ReadDecimal.j0 k a0 aA (decide ((aA.size:Int) > 18))))
theorem impl_ReadDecimal.mono_l: ∀k,(∀y0 y1 y2,LeO (impl_ReadDecimal.j0 k y0 y1 y2) (impl_ReadDecimal.j0 (k+1) y0 y1 y2))∧(∀y0 y1 y2 y3,LeO (impl_ReadDecimal.l0 k y0 y1 y2 y3) (impl_ReadDecimal.l0 (k+1) y0 y1 y2 y3))
 |0=>⟨fun _ _ _ r h=>by simp[impl_ReadDecimal.j0]at h,fun _ _ _ _ r h=>by simp[impl_ReadDecimal.l0]at h⟩
 |k+1=>by
  obtain⟨aB,aA⟩:=impl_ReadDecimal.mono_l k
  refine⟨?_,?_⟩
  ·intro y0 y1 y2
   unfold impl_ReadDecimal.j0
   repeat' first
   |(with_reducible exact aB _ _ _)
   |(with_reducible exact aA _ _ _ _)
   |(with_reducible exact LeO.refl _)
   |(with_reducible exact LeO.none _)
   |(with_reducible refine LeO.ite ?_ ?_)
   |(with_reducible refine LeO.bind ?_ (fun _=>?_))
   |exact LeO.none _
   |refine LeO.ite ?_ ?_
   |refine LeO.bind ?_ (fun _=>?_)
  ·intro y0 y1 y2 y3
   unfold impl_ReadDecimal.l0
   repeat' first
   |(with_reducible exact aB _ _ _)
   |(with_reducible exact aA _ _ _ _)
   |(with_reducible exact LeO.refl _)
   |(with_reducible exact LeO.none _)
   |(with_reducible refine LeO.ite ?_ ?_)
   |(with_reducible refine LeO.bind ?_ (fun _=>?_))
   |exact LeO.none _
   |refine LeO.ite ?_ ?_
   |refine LeO.bind ?_ (fun _=>?_)
theorem impl_ReadDecimal.mono: ∀a0 k,LeO (impl_ReadDecimal.f k a0) (impl_ReadDecimal.f (k+1) a0):=by
 intro a0 k
 obtain⟨aA,aB⟩:=impl_ReadDecimal.mono_l k
 unfold impl_ReadDecimal.f
 repeat' first
   |(with_reducible exact aA _ _ _)
   |(with_reducible exact aB _ _ _ _)
   |(with_reducible exact LeO.refl _)
   |(with_reducible exact LeO.none _)
   |(with_reducible refine LeO.ite ?_ ?_)
   |(with_reducible refine LeO.bind ?_ (fun _=>?_))
   |exact LeO.none _
   |refine LeO.ite ?_ ?_
   |refine LeO.bind ?_ (fun _=>?_)
set_option maxHeartbeats 8000000 in
set_option maxRecDepth 100000 in
theorem impl_ReadDecimal.calls (k:Nat) (a0:ByteArray) (r1:Int) (r2:Bool) (w:World) (h:impl_ReadDecimal.f k a0=some (r1,r2)) (hT:LwT w):
  Calls Tryz.prog 42 #[.string a0] w fun e w'=>e= .returned (.tuple #[.int .i64 r1,.bool r2])∧Below w.heap.size w w':=by
 have HT:=A' hT;clear hT;have HB:=A' (Below.refl w.heap.size w);have H:((strings_TrimPrefix.f a0 (⟨#[45]⟩:ByteArray)).bind fun aA=>(if(aA.size:Int)<1 then(impl_ReadDecimal.j0 k a0 aA true)else(impl_ReadDecimal.j0 k a0 aA (decide ((aA.size:Int) > 18)))))=some (r1,r2):=h;clear h;replace H:=Option.bind_eq_some_iff.mp H;obtain⟨aA,aN,H⟩:=H;replace H:(if(aA.size:Int)<1 then(impl_ReadDecimal.j0 k a0 aA true)else(impl_ReadDecimal.j0 k a0 aA (decide ((aA.size:Int) > 18))))=some (r1,r2):=H;have A2:=A' aN;clear aN;have aK:=A' H;clear H;go_enter Tryz.func42,Tryz.ntmps42;go_upto_region 2 with (first|((with_reducible refine gate_callee (f:=64) rfl ?_);refine goesL_ (some 8) rfl rfl Tryz.func64 (by kernel_rfl) rfl #[.string a0,.string (⟨#[45]⟩:ByteArray)] rfl (by(try simp only[List.map_toArray,List.map_cons,List.map_nil]);first|done|rfl|(simp only[List.length_drop,List.length_take];rfl)) ?_;(with_reducible refine(strings_TrimPrefix.calls a0 (⟨#[45]⟩:ByteArray) aA _ A2.out).mono ?_);rintro e w' ⟨rfl,⟨nd,rfl⟩⟩;refine⟨_,rfl,?_⟩))
 (try simp only[Act.put,List.setIfInBounds_toArray,List.set_cons_zero,List.set_cons_succ])
 go_cut [16] (fun aW wc=>∃(kq:Nat) (aF:Bool),aW= .bool aF∧Aside0 (impl_ReadDecimal.j0 kq a0 aA aF=some (r1,r2))∧Aside0 (kq≤k)∧Aside0 (Below w.heap.size w wc))
 case first=>
  have H:=aK.out;clear aK
  by_cases c4:(aA.size:Int)<1
  ·rw[if_pos c4]at H;have c4b0:decide ((aA.size:Int)<1)=true:=dT' c4;have c4b1:decide (aA.size<1)=true:=dT' (by omega);clear c4;(first|rw[c4b0]|(simp only[i64_w,i32_w];rw[c4b0])|skip);have H':=A' H;clear H;go_wp2
   go_meet
   case rel=>exact⟨_,(true),qS,H',⟨by first|omega|exact Nat.le_refl _⟩,⟨qK0 HB.out⟩⟩
  ·rw[if_neg c4]at H;have c4b0:decide ((aA.size:Int)<1)=false:=dF' c4;have c4b1:decide (aA.size<1)=false:=dF' (by omega);clear c4;(first|rw[c4b0]|(simp only[i64_w,i32_w];rw[c4b0])|skip);have H':=A' H;clear H;go_wp2
   go_meet
   case rel=>exact⟨_,(decide ((aA.size:Int) > 18)),qS,H',⟨by first|omega|exact Nat.le_refl _⟩,⟨qK0 HB.out⟩⟩
 case rest=>
  clear aK;try clear p2
  try clear c4
  try clear c4b0
  try clear c4b1
  obtain⟨kq,aF,rfl,HA,aO,HB⟩:=hcut
  cases kq with
  |zero=>exact absurd HA.out (by simp[impl_ReadDecimal.j0])
  |succ aM=>
   have H:=HA.out;clear HA;simp only[impl_ReadDecimal.j0]at H
   by_cases c5:aF=true
   ·subst c5;have H1:(some (0,false))=some (r1,r2):=by rw[if_pos rfl]at H;exact H
    clear H;have H:=H1;clear H1;simp only[Option.some.injEq,Prod.mk.injEq]at H;obtain⟨rfl,rfl⟩:=H;go_wp2;go_ret2;exact⟨qE,qK0 HB.out⟩
   ·replace c5:=Bool.eq_false_iff.mpr c5;subst c5;have H1:(impl_ReadDecimal.l0 aM a0 aA 0 0)=some (r1,r2):=by rw[if_neg (show¬(false=true) by decide)]at H;exact H
    clear H;have H:=H1;clear H1;have H':=A' H;clear H;go_wp2
    go_loopg [5,6] aM (fun kq v5 v6 w'=>∃(aC:Int) (aB:Int),v5= .int .i64 aC∧v6= .int .i64 aB∧Aside0 (impl_ReadDecimal.l0 kq a0 aA aC aB=some (r1,r2))∧Aside0 (kq≤aM)∧Aside0 (Below w.heap.size w w'))
    case atStart=>exact⟨(0),(0),qS,qS,H',⟨Nat.le_refl _⟩,⟨qK0 HB.out⟩⟩
    case round=>
     clear H';try clear p2
     try clear c4
     try clear c4b0
     try clear c4b1
     try clear c5
     try clear p2
     obtain⟨aC,aB,rfl,rfl,HA,aU,HB⟩:=hrel
     cases gk with
     |zero=>exact absurd HA.out (by simp[impl_ReadDecimal.l0])
     |succ k2=>
      have H:=HA.out;clear HA;simp only[impl_ReadDecimal.l0]at H
      by_cases c6:aB<(aA.size:Int)
      ·rw[if_pos c6]at H;have c6b0:decide (aB<(aA.size:Int))=true:=dT' c6;clear c6
       by_cases c7:0≤aB
       ·rw[if_pos c7]at H;have c7b0:decide (0≤aB)=true:=dT' c7;clear c7
        by_cases c9:(bt aA aB)<48
        ·rw[if_pos c9]at H;have c9b0:decide ((bt aA aB)<48)=true:=dT' c9;clear c9;simp only[Option.some.injEq,Prod.mk.injEq]at H;obtain⟨rfl,rfl⟩:=H;have p8:0≤(aB:Int):=oD' qA;have q8:aB<(aA.size:Int):=oD' qA;have aT:=bt_at aA aB;replace p8:=eq_true p8;replace q8:=eq_true q8;go_wp2;go_ret2;exact⟨qE,qK0 HB.out⟩
        ·rw[if_neg c9]at H;have c9b0:decide ((bt aA aB)<48)=false:=dF' c9;clear c9
         by_cases c11:(bt aA aB) > 57
         ·rw[if_pos c11]at H;have c11b0:decide (57<(bt aA aB))=true:=dT' c11;clear c11;simp only[Option.some.injEq,Prod.mk.injEq]at H;obtain⟨rfl,rfl⟩:=H;have p8:0≤(aB:Int):=oD' qA;have q8:aB<(aA.size:Int):=oD' qA;have aT:=bt_at aA aB;replace p8:=eq_true p8;replace q8:=eq_true q8;have aG:0≤(aB:Int):=oD' qA;have aI:aB<(aA.size:Int):=oD' qA;have aL:=bt_at aA aB;replace aG:=eq_true aG;replace aI:=eq_true aI;go_wp2;go_ret2;exact⟨qE,qK0 HB.out⟩
         ·rw[if_neg c11]at H;have c11b0:decide (57<(bt aA aB))=false:=dF' c11;clear c11;have H':=A' H;clear H;have p8:0≤(aB:Int):=oD' qA;have q8:aB<(aA.size:Int):=oD' qA;have aT:=bt_at aA aB;replace p8:=eq_true p8;replace q8:=eq_true q8;have aG:0≤(aB:Int):=oD' qA;have aI:aB<(aA.size:Int):=oD' qA;have aL:=bt_at aA aB;replace aG:=eq_true aG;replace aI:=eq_true aI;have aS:0≤(aB:Int):=oD' qA;have aP:aB<(aA.size:Int):=oD' qA;have aV:=bt_at aA aB;replace aS:=eq_true aS;replace aP:=eq_true aP;go_wp2
          go_roundg k2
          case measure=>have:=aO.out;have:=aU.out;omega
          case rel=>exact⟨(wrap64 ((wrap64 (10*aC))+(((bt aA aB) - 48) % 256))),(wrap64 (aB+1)),qS,qS,H',⟨by have:=aO.out;have:=aU.out;omega⟩,⟨qK0 HB.out⟩⟩
       ·rw[if_neg c7]at H;exact absurd H (by simp)
      ·rw[if_neg c6]at H;have c6b0:decide (aB<(aA.size:Int))=false:=dF' c6;clear c6
       by_cases c13:(aA.size:Int)<(a0.size:Int)
       ·rw[if_pos c13]at H;have c13b0:decide ((aA.size:Int)<(a0.size:Int))=true:=dT' c13;have c13b1:decide (aA.size<a0.size)=true:=dT' (Int.ofNat_lt.mp c13);clear c13;replace H:=Option.bind_eq_some_iff.mp H;obtain⟨aE,aH,H⟩:=H;replace H:(if aE.toList=a0.toList then(some (wrap64 (-aC),true))else(some (0,false)))=some (r1,r2):=H;have aR:=A' aH;clear aH
        by_cases c15:aE.toList=a0.toList
        ·rw[if_pos c15]at H;have c15b0:(aE.toList == a0.toList)=true:=beq_iff_eq.mpr c15;have c15b1:(aE.toList != a0.toList)=false:=bne_eq_false_iff_eq.mpr c15;clear c15;simp only[Option.some.injEq,Prod.mk.injEq]at H;obtain⟨rfl,rfl⟩:=H;go_wp2_with (first|((with_reducible refine gate_callee (f:=39) rfl ?_);refine goesL_ (some 49) rfl rfl Tryz.func39 (by kernel_rfl) rfl #[.int .i64 (wrap64 (-aC))] rfl (by(try simp only[List.map_toArray,List.map_cons,List.map_nil]);first|done|rfl|(simp only[List.length_drop,List.length_take];rfl)) ?_;(with_reducible refine(impl_Decimal.calls (wrap64 (-aC)) aE _ aR.out (HT.out.below (qK0 HB.out))).mono ?_);rintro e aZ ⟨rfl,hb⟩;refine⟨_,rfl,?_⟩;replace HB:=A' (W' (qK0 HB.out) hb);(try clear hb);(try clear hb2);(try clear hk);(try clear hi)));go_ret2;exact⟨qE,qK0 HB.out⟩
        ·rw[if_neg c15]at H;have c15b0:(aE.toList == a0.toList)=false:=beq_eq_false_iff_ne.mpr c15;have c15b1:(aE.toList != a0.toList)=true:=bne_iff_ne.mpr c15;simp only[Option.some.injEq,Prod.mk.injEq]at H;obtain⟨rfl,rfl⟩:=H;go_wp2_with (first|((with_reducible refine gate_callee (f:=39) rfl ?_);refine goesL_ (some 49) rfl rfl Tryz.func39 (by kernel_rfl) rfl #[.int .i64 (wrap64 (-aC))] rfl (by(try simp only[List.map_toArray,List.map_cons,List.map_nil]);first|done|rfl|(simp only[List.length_drop,List.length_take];rfl)) ?_;(with_reducible refine(impl_Decimal.calls (wrap64 (-aC)) aE _ aR.out (HT.out.below (qK0 HB.out))).mono ?_);rintro e bA ⟨rfl,hb⟩;refine⟨_,rfl,?_⟩;replace HB:=A' (W' (qK0 HB.out) hb);(try clear hb);(try clear hb2);(try clear hk);(try clear hi)));go_ret2;exact⟨qE,qK0 HB.out⟩
       ·rw[if_neg c13]at H;have c13b0:decide ((aA.size:Int)<(a0.size:Int))=false:=dF' c13;have c13b1:decide (aA.size<a0.size)=false:=dF' (fun h=>c13 (Int.ofNat_lt.mpr h));clear c13;replace H:=Option.bind_eq_some_iff.mp H;obtain⟨aD,aJ,H⟩:=H;replace H:(if aD.toList=a0.toList then(some (aC,true))else(some (0,false)))=some (r1,r2):=H;have aQ:=A' aJ;clear aJ
        by_cases c19:aD.toList=a0.toList
        ·rw[if_pos c19]at H;have c19b0:(aD.toList == a0.toList)=true:=beq_iff_eq.mpr c19;have c19b1:(aD.toList != a0.toList)=false:=bne_eq_false_iff_eq.mpr c19;clear c19;simp only[Option.some.injEq,Prod.mk.injEq]at H;obtain⟨rfl,rfl⟩:=H;go_wp2_with (first|((with_reducible refine gate_callee (f:=39) rfl ?_);refine goesL_ (some 49) rfl rfl Tryz.func39 (by kernel_rfl) rfl #[.int .i64 aC] rfl (by(try simp only[List.map_toArray,List.map_cons,List.map_nil]);first|done|rfl|(simp only[List.length_drop,List.length_take];rfl)) ?_;(with_reducible refine(impl_Decimal.calls aC aD _ aQ.out (HT.out.below (qK0 HB.out))).mono ?_);rintro e aY ⟨rfl,hb⟩;refine⟨_,rfl,?_⟩;replace HB:=A' (W' (qK0 HB.out) hb);(try clear hb);(try clear hb2);(try clear hk);(try clear hi)));go_ret2;exact⟨qE,qK0 HB.out⟩
        ·rw[if_neg c19]at H;have c19b0:(aD.toList == a0.toList)=false:=beq_eq_false_iff_ne.mpr c19;have c19b1:(aD.toList != a0.toList)=true:=bne_iff_ne.mpr c19;simp only[Option.some.injEq,Prod.mk.injEq]at H;obtain⟨rfl,rfl⟩:=H;go_wp2_with (first|((with_reducible refine gate_callee (f:=39) rfl ?_);refine goesL_ (some 49) rfl rfl Tryz.func39 (by kernel_rfl) rfl #[.int .i64 aC] rfl (by(try simp only[List.map_toArray,List.map_cons,List.map_nil]);first|done|rfl|(simp only[List.length_drop,List.length_take];rfl)) ?_;(with_reducible refine(impl_Decimal.calls aC aD _ aQ.out (HT.out.below (qK0 HB.out))).mono ?_);rintro e aX ⟨rfl,hb⟩;refine⟨_,rfl,?_⟩;replace HB:=A' (W' (qK0 HB.out) hb);(try clear hb);(try clear hb2);(try clear hk);(try clear hi)));go_ret2;exact⟨qE,qK0 HB.out⟩
end Go.Proofs.YtifdihbndlmgpaaGreatDoor.HWys
