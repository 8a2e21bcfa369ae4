-- Written by a program for this claim (the functions that the statement reaches, and that the program's code comes to them).
import Derived.Test.YtifdihbndlmgpaaGreatDoorHWysx0
import Derived.Test.YtifdihbndlmgpaaGreatDoorHWysx1
import Derived.Test.YtifdihbndlmgpaaGreatDoorHWysx2
import Derived.Test.YtifdihbndlmgpaaGreatDoorHWysx3
import Derived.Test.YtifdihbndlmgpaaGreatDoorHWysx4
namespace Go.Proofs.YtifdihbndlmgpaaGreatDoor.HWys
open Go.RowKit Go.Proofs.YtifdihbndlmgpaaGreatDoorW.PrintWords Go.Proofs.YtifdihbndlmgpaaGreatDoorW.PrintLast Go.Proofs.YtifdihbndlmgpaaGreatDoorW.PrintMore
attribute [local go_sem] max2_int min2_int max_two min_two max_three min_three max_four min_four
set_option linter.unusedVariables false
set_option linter.unusedSimpArgs false
attribute [local go_sem high] eqA51
/-! ### spec_l07Fault: function 34 -/
mutual
def spec_l07Fault.l0:Nat→List (S51)→Int→Int→Int→Int→Bool→Option (ByteArray×Int×Int×Int×Bool)
 |0,_,_,_,_,_,_=>none
 |k+1,x1,x6,x7,aB,aC,aD=>if x7<(x1.length:Int)then(if 0≤x7 then(if((rd_T51 x1 x7).f0)=x6 then((spec_l07Many.f aB aC aD x6).bind fun aA=>((spec_l00In.f ((rd_T51 x1 x7).f1) 0 (wrap64 (aA.1 - 1))).bind fun aE=>(if aE=true then(spec_l07Fault.l1 k x1 x6 x7 0 aA.2.1 aA.2.2.1 aA.2.2.2 ((rd_T51 x1 x7).f0) ((rd_T51 x1 x7).f1))else(some ((⟨#[115,104,101,97,118,101]⟩:ByteArray),x7,aA.2.1,aA.2.2.1,aA.2.2.2)))))else(some ((⟨#[98,108,111,99,107]⟩:ByteArray),x7,aB,aC,aD)))else(none))else(if(x1.length:Int)<(wrap64 (aB+aC))then(some ((⟨#[115,104,111,114,116]⟩:ByteArray),(x1.length:Int),aB,aC,aD))else(some ((⟨#[110,111,110,101]⟩:ByteArray),(-1),aB,aC,aD)))
def spec_l07Fault.l1:Nat→List (S51)→Int→Int→Int→Int→Int→Bool→Int→Int→Option (ByteArray×Int×Int×Int×Bool)
 |0,_,_,_,_,_,_,_,_,_=>none
 |k+1,x1,x6,x7,x9,aD,aE,aC,aA,aB=>if x9<x7 then(if 0≤x9 then(if x9<(x1.length:Int)then(if(((rd_T51 x1 x9).f0) == aA && (((rd_T51 x1 x9).f1) == aB))=true then(some ((⟨#[116,119,105,99,101]⟩:ByteArray),x7,aD,aE,aC))else(spec_l07Fault.l1 k x1 x6 x7 (wrap64 (x9+1)) aD aE aC aA aB))else(none))else(none))else(spec_l07Fault.l0 k x1 (wrap64 (1 - x6)) (wrap64 (x7+1)) aD aE aC)
end
def spec_l07Fault.f (k:Nat) (aC:Int) (aB:Int) (aD:Bool) (l1:List (S51)):Option (ByteArray×Int×Int×Int×Bool):=(spec_l07First.f aC aB aD).bind fun aA=>(spec_l07Fault.l0 k l1 aA.1 0 aA.2.1 aA.2.2.1 aA.2.2.2)
theorem spec_l07Fault.mono_l: ∀k,(∀y0 y1 y2 y3 y4 y5,LeO (spec_l07Fault.l0 k y0 y1 y2 y3 y4 y5) (spec_l07Fault.l0 (k+1) y0 y1 y2 y3 y4 y5))∧(∀y0 y1 y2 y3 y4 y5 y6 y7 y8,LeO (spec_l07Fault.l1 k y0 y1 y2 y3 y4 y5 y6 y7 y8) (spec_l07Fault.l1 (k+1) y0 y1 y2 y3 y4 y5 y6 y7 y8))
 |0=>⟨fun _ _ _ _ _ _ r h=>by simp[spec_l07Fault.l0]at h,fun _ _ _ _ _ _ _ _ _ r h=>by simp[spec_l07Fault.l1]at h⟩
 |k+1=>by
  obtain⟨aB,aA⟩:=spec_l07Fault.mono_l k
  refine⟨?_,?_⟩
  ·intro y0 y1 y2 y3 y4 y5
   unfold spec_l07Fault.l0
   repeat' first
   |(with_reducible exact aB _ _ _ _ _ _)
   |(with_reducible exact aA _ _ _ _ _ _ _ _ _)
   |(with_reducible exact LeO.refl _)
   |(with_reducible exact LeO.none _)
   |(with_reducible refine LeO.ite ?_ ?_)
   |(with_reducible refine LeO.bind ?_ (fun _=>?_))
   |exact LeO.none _
   |refine LeO.ite ?_ ?_
   |refine LeO.bind ?_ (fun _=>?_)
  ·intro y0 y1 y2 y3 y4 y5 y6 y7 y8
   unfold spec_l07Fault.l1
   repeat' first
   |(with_reducible exact aB _ _ _ _ _ _)
   |(with_reducible exact aA _ _ _ _ _ _ _ _ _)
   |(with_reducible exact LeO.refl _)
   |(with_reducible exact LeO.none _)
   |(with_reducible refine LeO.ite ?_ ?_)
   |(with_reducible refine LeO.bind ?_ (fun _=>?_))
   |exact LeO.none _
   |refine LeO.ite ?_ ?_
   |refine LeO.bind ?_ (fun _=>?_)
theorem spec_l07Fault.mono: ∀a0 a1 a2 a3 k,LeO (spec_l07Fault.f k a0 a1 a2 a3) (spec_l07Fault.f (k+1) a0 a1 a2 a3):=by
 intro a0 a1 a2 a3 k
 obtain⟨aA,aB⟩:=spec_l07Fault.mono_l k
 unfold spec_l07Fault.f
 repeat' first
   |(with_reducible exact aA _ _ _ _ _ _)
   |(with_reducible exact aB _ _ _ _ _ _ _ _ _)
   |(with_reducible exact LeO.refl _)
   |(with_reducible exact LeO.none _)
   |(with_reducible refine LeO.ite ?_ ?_)
   |(with_reducible refine LeO.bind ?_ (fun _=>?_))
   |exact LeO.none _
   |refine LeO.ite ?_ ?_
   |refine LeO.bind ?_ (fun _=>?_)
def spec_l07Fault.T8:Bool×List (List Nat×List Nat):=(true,[([],[]),([0],[0]),([],[]),([],[]),([2,3],[2,3]),([4],[4]),([1,5,4],[1,5]),([6],[6])])
def spec_l07Fault.B8:List Nat:=[0,1,0,0,12,28,63,127]
theorem spec_l07Fault.tab8:rtab .any (opsOf Tryz.f34 8)=spec_l07Fault.T8:=by kernel_rfl
theorem spec_l07Fault.bits8:waitsOk spec_l07Fault.T8.2 spec_l07Fault.B8=true:=by kernel_rfl
def spec_l07Fault.T16:Bool×List (List Nat×List Nat):=(true,[([],[]),([0],[0]),([],[]),([2],[2]),([3],[3]),([4],[4]),([],[]),([6],[6]),([7],[7]),([8],[8]),([5,9],[5,9]),([1,10],[1,10])])
def spec_l07Fault.B16:List Nat:=[0,1,0,4,12,28,0,64,192,448,1020,2047]
theorem spec_l07Fault.tab16:rtab .any (opsOf Tryz.f34 16)=spec_l07Fault.T16:=by kernel_rfl
theorem spec_l07Fault.bits16:waitsOk spec_l07Fault.T16.2 spec_l07Fault.B16=true:=by kernel_rfl
theorem qZ5_0 {p q:Prop} (h:q) (f:q→p:=by intro h_;repeat(first|(with_reducible first|exact h_|apply KeepBut.set_|apply keep_drewN|apply keep_drew|apply keep_alloc)|exact h_)):p:=f h
theorem qZ5_1 {p q:Prop} (h:q) (f:q→p:=by intro h_;repeat(first|(with_reducible first|exact h_|apply IsS25.alloc|apply IsS25.drewN|apply IsS25.drew|apply IsS25.set_0|apply IsS25.set_1|apply IsS25.set_2)|exact h_)):p:=f h
theorem qZ5_2 {p q r0:Prop} (h:q) (g0:r0) (f:q→r0→p:=by intro h_ g0_;repeat(first|(with_reducible first|exact h_|apply K'|apply F'|apply J'|refine E' ?_ g0_)|exact h_)):p:=f h g0
theorem qZ5_3 {p q r0:Prop} (h:q) (g0:r0) (f:q→r0→p:=by intro h_ g0_;repeat(first|(with_reducible first|exact h_|apply IsS25.alloc|apply IsS25.drewN|apply IsS25.drew|apply IsS25.set_0|apply IsS25.set_1|apply IsS25.set_2|refine IsS25.far ?_ g0_ _)|exact h_)):p:=f h g0
theorem qZ5_4 {p q r0:Prop} (h:q) (g0:r0) (f:q→r0→p:=by intro h_ g0_;repeat(first|(with_reducible first|exact h_|apply KeepBut.set_|apply keep_drewN|apply keep_drew|apply keep_alloc|refine keep_far ?_ g0_ _)|exact h_)):p:=f h g0
theorem qZ5_5 {p q r0 r1:Prop} (h:q) (g0:r0) (g1:r1) (f:q→r0→r1→p:=by intro h_ g0_ g1_;repeat(first|(with_reducible first|exact h_|apply K'|apply F'|apply J'|refine E' ?_ g0_|refine E' ?_ g1_)|exact h_)):p:=f h g0 g1
set_option maxHeartbeats 8000000 in
set_option maxRecDepth 100000 in
theorem spec_l07Fault.calls (k:Nat) (g:Nat) (bN:Int) (bR:Int) (bM:Bool) (A1:Option Addr) (c1:Nat) (l1:List (S51)) (r1:ByteArray) (r2:Int) (r3:Int) (r4:Int) (r5:Bool) (w0 w:World) (hI:IsS25 w0 w g bN bR bM) (hB:Below w0.heap.size w0 w) (cO: ∀W_,KeepBut w W_ g none→Kd.C k51 W_ A1 l1.length l1) (cX:l1.length≤c1) (h:spec_l07Fault.f k bN bR bM l1=some (r1,r2,r3,r4,r5)):
  Calls Tryz.prog 34 #[.pointer (some ⟨g,0,none⟩),.slice A1 l1.length c1] w fun e w'=>e= .returned (.tuple #[.string r1,.int .i64 r2])∧IsS25 w0 w' g r3 r4 r5∧Below w0.heap.size w0 w'∧KeepBut w w' g none:=by
 have dA:=Tryz.underlying51;have aS:=A' cO;have dE:=A' cX;clear cO cX;have aG:=A' hI;have HK:=A' (KeepBut.refl w g none);have HL:=A' hB.size;clear hI;have cM:=A' hB.size;have HB:=A' hB;clear hB;have H:((spec_l07First.f bN bR bM).bind fun bD=>(spec_l07Fault.l0 k l1 bD.1 0 bD.2.1 bD.2.2.1 bD.2.2.2))=some (r1,r2,r3,r4,r5):=h;clear h;replace H:=Option.bind_eq_some_iff.mp H;obtain⟨⟨bY,cA,bW,bU⟩,cQ,H⟩:=H;replace H:(spec_l07Fault.l0 k l1 bY 0 cA bW bU)=some (r1,r2,r3,r4,r5):=H;have A3:=A' cQ;clear cQ;have H':=A' H;clear H;go_enter Tryz.func34,Tryz.ntmps34;go_wp2_with (first|((with_reducible refine gate_callee (f:=36) rfl ?_);refine goesL_ (some 11) rfl rfl Tryz.func36 (by kernel_rfl) rfl #[.pointer (some ⟨g,0,none⟩)] rfl (by(try simp only[List.map_toArray,List.map_cons,List.map_nil]);first|done|rfl|(simp only[List.length_drop,List.length_take];rfl)) ?_;(with_reducible refine(spec_l07First.calls g bN bR bM bY cA bW bU w0 _ ?aZ ?aY A3.out).mono ?_);(case aZ=>repeat(first|(with_reducible first|exact aG.out|apply IsS25.alloc|apply IsS25.drewN|apply IsS25.drew|apply IsS25.set_0|apply IsS25.set_1|apply IsS25.set_2)|exact aG.out));(case aY=>repeat(first|(with_reducible first|exact HB.out|apply K'|apply F'|apply J'|refine E' ?_ (IsS25.ge aG.out))|exact HB.out));rintro e w4 ⟨rfl,hi,hb,hk⟩;refine⟨_,rfl,?_⟩;replace HK:=A' (KeepBut.trans (qZ5_0 HK.out) hk (.inl rfl));replace HB:=A' (hb);replace aG:=A' (hi);(try clear hb);(try clear hb2);(try clear hk);(try clear hi)))
 go_loopg [6,7] k (fun kq v6 v7 w'=>∃(aP:Int) (aA:Int) (aE:Int) (aF:Int) (aH:Bool),v6= .int .i64 aP∧v7= .int .i64 aA∧Aside0 (spec_l07Fault.l0 kq l1 aP aA aE aF aH=some (r1,r2,r3,r4,r5))∧Aside0 (kq≤k)∧Aside0 (IsS25 w0 w' g aE aF aH)∧Aside0 (KeepBut w w' g none)∧Aside0 (Below w0.heap.size w0 w'))
 case atStart=>exact⟨(bY),(0),(cA),(bW),(bU),qS,qS,H',⟨Nat.le_refl _⟩,⟨qZ5_1 aG.out⟩,⟨qZ5_0 HK.out⟩,⟨qZ5_2 HB.out (IsS25.ge aG.out)⟩⟩
 case round=>
  clear H';try clear c1
  try clear p2
  try clear c3
  obtain⟨aP,aA,aE,aF,aH,rfl,rfl,HA,cK,aG,HK,HB⟩:=hrel
  cases gk with
  |zero=>exact absurd HA.out (by simp[spec_l07Fault.l0])
  |succ k1=>
   have H:=HA.out;clear HA;simp only[spec_l07Fault.l0]at H
   by_cases c5:aA<(l1.length:Int)
   ·rw[if_pos c5]at H;have c5b0:decide (aA<(l1.length:Int))=true:=dT' c5;clear c5
    by_cases c6:0≤aA
    ·rw[if_pos c6]at H;have c6b0:decide (0≤aA)=true:=dT' c6;clear c6
     by_cases c7:((rd_T51 l1 aA).f0)=aP
     ·rw[if_pos c7]at H;have c7b0:(((rd_T51 l1 aA).f0) == aP)=true:=beq_iff_eq.mpr c7;have c7b1:(((rd_T51 l1 aA).f0) != aP)=false:=bne_eq_false_iff_eq.mpr c7;clear c7;replace H:=Option.bind_eq_some_iff.mp H;obtain⟨⟨bC,aU,aV,aT⟩,cY,H⟩:=H;replace H:((spec_l00In.f ((rd_T51 l1 aA).f1) 0 (wrap64 (bC - 1))).bind fun bL=>(if bL=true then(spec_l07Fault.l1 k1 l1 aP aA 0 aU aV aT ((rd_T51 l1 aA).f0) ((rd_T51 l1 aA).f1))else(some ((⟨#[115,104,101,97,118,101]⟩:ByteArray),aA,aU,aV,aT))))=some (r1,r2,r3,r4,r5):=H;have A8:=A' cY;clear cY;replace H:=Option.bind_eq_some_iff.mp H;obtain⟨bL,cR,H⟩:=H;replace H:(if bL=true then(spec_l07Fault.l1 k1 l1 aP aA 0 aU aV aT ((rd_T51 l1 aA).f0) ((rd_T51 l1 aA).f1))else(some ((⟨#[115,104,101,97,118,101]⟩:ByteArray),aA,aU,aV,aT)))=some (r1,r2,r3,r4,r5):=H;have A9:=A' cR;clear cR
      by_cases c10:bL=true
      ·subst c10;have H1:(spec_l07Fault.l1 k1 l1 aP aA 0 aU aV aT ((rd_T51 l1 aA).f0) ((rd_T51 l1 aA).f1))=some (r1,r2,r3,r4,r5):=by rw[if_pos rfl]at H;exact H
       clear H;have H:=H1;clear H1;have H':=A' H;clear H;have aQ:0≤(aA:Int):=oD' qA;have aR:aA<(l1.length:Int):=oD' qA;obtain⟨aJ,bF,aX,aW⟩:=at_T51 (Kd.C_foot_now aS.out HK.out) aA aQ aR
       cases bF
       replace aQ:=eq_true aQ;replace aR:=eq_true aR;try go_wp2_with (first|((with_reducible refine gate_dst (N:=8) rfl ?_);refine box_event ?hg (N:=8) ?hd (cs:=#[.int .i64 0,.int .i64 0]) (t:=51) ?hr ?_;(case hd=>rfl);(case hg=>rfl);(case hr=>first|(go_simp;done)|(go_simp;rfl));intro aB hg bZ hbox hb;have n0_:=A' (IsS25.below (qZ5_1 aG.out) hb);have n1_:=A' (KeepBut.trans (qZ5_0 HK.out) (KeepBut.of_below hb g none) (.inl rfl));have n2_:=A' (W' (qZ5_2 HB.out (IsS25.ge aG.out)) hb);have n3_:=A' (hbox);have n4_:=A' ((by rw[hg];exact(keep_size (w:=w) (g:=g) (row:=none) (qZ5_0 HK.out)):w.heap.size≤aB));have n5_:=A' ((Nat.le_trans cM.out (by rw[hg];exact(keep_size (w:=w) (g:=g) (row:=none) (qZ5_0 HK.out)):w.heap.size≤aB):w0.heap.size≤aB));have n6_:=A' ((by rw[hg];exact Nat.ne_of_lt (IsS25.lt (show IsS25 w0 _ g aE aF aH from by repeat(first|(with_reducible first|exact aG.out|apply IsS25.alloc|apply IsS25.drewN|apply IsS25.drew|apply IsS25.set_0|apply IsS25.set_1|apply IsS25.set_2)|exact aG.out))):g≠aB));have n7_:=A' ((by rw[hg];exact Nat.ne_of_gt (IsS25.lt (show IsS25 w0 _ g aE aF aH from by repeat(first|(with_reducible first|exact aG.out|apply IsS25.alloc|apply IsS25.drewN|apply IsS25.drew|apply IsS25.set_0|apply IsS25.set_1|apply IsS25.set_2)|exact aG.out))):aB≠g));clear aG;clear HK;clear HB;have aG:=n0_;have HK:=n1_;have HB:=n2_;have aC:=n3_;have aO:=n4_;have aN:=n5_;have aI:=n6_;have aK:=n7_;clear n0_ n1_ n2_ n3_ n4_ n5_ n6_ n7_;clear hb hbox hg;have cU:=aK.out;have cW:=aI.out;have bQ:bZ.cell? ⟨aB,0,none⟩=some (.int .i64 0):=(N' aC.out 0).trans rfl;have bK:bZ.cell? ⟨aB,1,none⟩=some (.int .i64 0):=(N' aC.out 1).trans rfl;have bT:=Y' aC.out 0;have bO:=Y' aC.out 1))
       have n0_:Aside0 (((bZ.setCell ⟨aB,0,none⟩ (.int .i64 ((rd_T51 l1 aA).f0))).setCell ⟨aB,1,none⟩ (.int .i64 ((rd_T51 l1 aA).f1))).heap[aB]? =some (.cells #[.int .i64 ((rd_T51 l1 aA).f0),.int .i64 ((rd_T51 l1 aA).f1)] 51 (0,0))):=⟨by(with_reducible repeat(first|refine G' ?_ _|refine I' ?_|refine hA' ?_ _));refine blk_put (cs:=#[.int .i64 ((rd_T51 l1 aA).f0),.int .i64 0]) ?_ 1 _ rfl;(with_reducible repeat(first|refine G' ?_ _|refine I' ?_|refine hA' ?_ _));refine blk_put (cs:=#[.int .i64 0,.int .i64 0]) ?_ 0 _ rfl;(with_reducible repeat(first|refine G' ?_ _|refine I' ?_|refine hA' ?_ _));exact aC.out⟩
       have n1_:Aside0 (IsS25 w0 ((bZ.setCell ⟨aB,0,none⟩ (.int .i64 ((rd_T51 l1 aA).f0))).setCell ⟨aB,1,none⟩ (.int .i64 ((rd_T51 l1 aA).f1))) g aE aF aH):=⟨qZ5_3 aG.out aI.out⟩
       have n2_:Aside0 (KeepBut w ((bZ.setCell ⟨aB,0,none⟩ (.int .i64 ((rd_T51 l1 aA).f0))).setCell ⟨aB,1,none⟩ (.int .i64 ((rd_T51 l1 aA).f1))) g none):=⟨qZ5_4 HK.out aO.out⟩
       have n3_:Aside0 (Below w0.heap.size w0 ((bZ.setCell ⟨aB,0,none⟩ (.int .i64 ((rd_T51 l1 aA).f0))).setCell ⟨aB,1,none⟩ (.int .i64 ((rd_T51 l1 aA).f1)))):=⟨qZ5_5 HB.out (IsS25.ge aG.out) aN.out⟩
       (try clear aC);(try clear aG);(try clear HK);(try clear HB)
       generalize ((bZ.setCell ⟨aB,0,none⟩ (.int .i64 ((rd_T51 l1 aA).f0))).setCell ⟨aB,1,none⟩ (.int .i64 ((rd_T51 l1 aA).f1)))=cZ at n0_ n1_ n2_ n3_ ⊢
       have aC:=n0_;have aG:=n1_;have HK:=n2_;have HB:=n3_;clear n0_ n1_ n2_ n3_;replace aC:=A' (I' aC.out);replace aG:=A' (IsS25.drew aG.out);replace HK:=A' (keep_drew HK.out);replace HB:=A' (J' HB.out);refine start_ (n:=8) (S:=fun w'=>w'.cell? ⟨aB,0,none⟩=some (.int .i64 ((rd_T51 l1 aA).f0))∧w'.cell? ⟨aB,1,none⟩=some (.int .i64 ((rd_T51 l1 aA).f1))) (ds:=[]) #[n',n',n',n',n',n',n',n'] (by kernel_rfl) rfl rfl ⟨(N' aC.out 0).trans rfl,(N' aC.out 1).trans rfl⟩ (fun hHeld=>?_);refine with_tabW spec_l07Fault.tab8 spec_l07Fault.bits8 (fun HT_ HW_=>?_)
       generalize cZ.drew=w15 at aC aG HK HB hHeld ⊢
       refine pure_ (i:=0) (N:=some 27) (v:=?_) (a':=?_) #[y',n',n',n',n',n',n',n'] rfl rfl (any_of HT_.out (by kernel_rfl)) (fun _ _ _ h=>h) (Or.inl ⟨by rfl,?_⟩) ?_ ?_;rotate_left
       ·exact qI
       rotate_left
       ·exact qP
       refine pure_ (i:=2) (N:=some 29) (v:=?_) (a':=?_) #[y',n',y',n',n',n',n',n'] rfl rfl (any_of HT_.out (by kernel_rfl)) (fun _ _ _ h=>h) (Or.inl ⟨by rfl,?_⟩) ?_ ?_;rotate_left
       ·exact qI
       rotate_left
       ·exact qP
       refine pure_ (i:=3) (N:=some 30) (v:=?_) (a':=?_) #[y',n',y',y',n',n',n',n'] rfl rfl (any_of HT_.out (by kernel_rfl)) (fun _ _ _ h=>h) (Or.inl ⟨by rfl,?_⟩) ?_ ?_;rotate_left
       ·exact qI
       rotate_left
       ·exact qP
       refine take_ (i:=1) (N:=some 28) (v:=?_) (a':=?_) #[y',y',y',y',n',n',n',n'] rfl rfl (take_ofW HT_.out HW_.out (by kernel_rfl)) (fun _ _ _ h=>h) (Or.inl ⟨by rfl,?_⟩) hHeld ?_ ?_;rotate_left
       ·rintro w' ⟨s0,s1⟩;go_simp;with_reducible rfl
       rotate_left
       ·exact qP
       refine one_ (i:=4) (N:=some 31) #[y',y',y',y',y',n',n',n'] rfl rfl (one_of HT_.out (by kernel_rfl)) (by decide) (fun K hK=>?_);refine goes_ Tryz.func30 (by kernel_rfl) rfl #[.pointer (some ⟨g,0,none⟩),.int .i64 aP] (by rfl) rfl rfl (by(try simp only[List.map_toArray,List.map_cons,List.map_nil]);first|done|rfl|(simp only[List.length_drop,List.length_take];rfl)) ?_
       with_reducible refine(spec_l07Many.calls g aE aF aH aP bC aU aV aT w0 _ ?aZ ?aY A8.out).mono ?_
       (case aZ=>repeat(first|(with_reducible first|exact aG.out|apply IsS25.alloc|apply IsS25.drewN|apply IsS25.drew|apply IsS25.set_0|apply IsS25.set_1|apply IsS25.set_2|refine IsS25.far ?_ aI.out _)|exact aG.out));(case aY=>repeat(first|(with_reducible first|exact HB.out|apply K'|apply F'|apply J'|refine E' ?_ (IsS25.ge aG.out)|refine E' ?_ aN.out)|exact HB.out));rintro e dD ⟨rfl,hi,hb,hk⟩;refine⟨_,rfl,?_⟩;replace aC:=A' (KeepBut.blk hk (g':=aB) (o:=.cells #[.int .i64 ((rd_T51 l1 aA).f0),.int .i64 ((rd_T51 l1 aA).f1)] 51 (0,0)) (qB aC.out) aK.out (by simp));replace HK:=A' (KeepBut.trans (qZ5_4 HK.out aO.out) hk (.inl rfl));replace HB:=A' (hb);replace aG:=A' (hi);(try clear hb);(try clear hb2);(try clear hk);(try clear hi);refine hK.out _ _ ⟨(N' aC.out 0).trans rfl,(N' aC.out 1).trans rfl⟩ (fun hHeld=>?_);clear hK K;refine norm_ (a':=?_) ?_ ?_;rotate_left
       ·show Act.put _ (some 31) _=_
        exact qP
       refine pure_ (i:=5) (N:=some 32) (v:=?_) (a':=?_) #[y',y',y',y',y',y',n',n'] rfl rfl (any_of HT_.out (by kernel_rfl)) (fun _ _ _ h=>h) (Or.inl ⟨by rfl,?_⟩) ?_ ?_;rotate_left
       ·exact qI
       rotate_left
       ·exact qP
       refine one_ (i:=6) (N:=some 33) #[y',y',y',y',y',y',y',n'] rfl rfl (one_of HT_.out (by kernel_rfl)) (by decide) (fun K hK=>?_);refine goes_ Tryz.func58 (by kernel_rfl) rfl #[.int .i64 ((rd_T51 l1 aA).f1),.int .i64 0,.int .i64 (wrap64 (bC - 1))] (by rfl) rfl rfl (by(try simp only[List.map_toArray,List.map_cons,List.map_nil]);first|done|rfl|(simp only[List.length_drop,List.length_take];rfl)) ?_
       with_reducible refine(spec_l00In.calls ((rd_T51 l1 aA).f1) 0 (wrap64 (bC - 1)) true _ A9.out).mono ?_
       rintro e w' ⟨rfl,⟨nd,rfl⟩⟩;refine⟨_,rfl,?_⟩;refine hK.out _ _ ⟨(N' aC.out 0).trans rfl,(N' aC.out 1).trans rfl⟩ (fun hHeld=>?_);clear hK K;refine norm_ (a':=?_) ?_ ?_;rotate_left
       ·show Act.put _ (some 33) _=_
        exact qP
       refine pure_ (i:=7) (N:=some 34) (v:=?_) (a':=?_) #[y',y',y',y',y',y',y',y'] rfl rfl (any_of HT_.out (by kernel_rfl)) (fun _ _ _ h=>h) (Or.inl ⟨by rfl,?_⟩) ?_ ?_;rotate_left
       ·exact qI
       rotate_left
       ·exact qP
       refine done_ (done_of HT_.out (by kernel_rfl)) ?_;try go_wp2
       go_loopg [9] k1 (fun kq v9 w'=>∃(aD:Int),v9= .int .i64 aD∧Aside0 (spec_l07Fault.l1 kq l1 aP aA aD aU aV aT ((rd_T51 l1 aA).f0) ((rd_T51 l1 aA).f1)=some (r1,r2,r3,r4,r5))∧Aside0 (kq≤k1)∧Aside0 (w'.heap[aB]? =some (.cells #[.int .i64 ((rd_T51 l1 aA).f0),.int .i64 ((rd_T51 l1 aA).f1)] 51 (0,0)))∧Aside0 (IsS25 w0 w' g aU aV aT)∧Aside0 (KeepBut w w' g none)∧Aside0 (Below w0.heap.size w0 w'))
       case atStart=>exact⟨(0),qS,H',⟨Nat.le_refl _⟩,⟨qB aC.out⟩,⟨qZ5_3 aG.out aI.out⟩,⟨qZ5_4 HK.out aO.out⟩,⟨qZ5_5 HB.out (IsS25.ge aG.out) aN.out⟩⟩
       case round=>
        clear H';try clear c1
        try clear p2
        try clear c3
        try clear p3
        try clear q3
        try clear hx3
        try clear c5
        try clear c5b0
        try clear c6
        try clear c6b0
        try clear p6
        try clear c7
        try clear c7b0
        try clear c7b1
        try clear c10
        try clear c12
        try clear bQ
        try clear bK
        try clear bT
        try clear bO
        try clear aX
        try clear aW
        try clear p2
        try clear aQ
        try clear aR
        obtain⟨aD,rfl,HA,cJ,aC,aG,HK,HB⟩:=hrel
        cases gk with
        |zero=>exact absurd HA.out (by simp[spec_l07Fault.l1])
        |succ k2=>
         have H:=HA.out;clear HA;simp only[spec_l07Fault.l1]at H
         by_cases c17:aD<aA
         ·rw[if_pos c17]at H;have c17b0:decide (aD<aA)=true:=dT' c17;clear c17
          by_cases c18:0≤aD
          ·rw[if_pos c18]at H;have c18b0:decide (0≤aD)=true:=dT' c18;clear c18
           by_cases c19:aD<(l1.length:Int)
           ·rw[if_pos c19]at H;have c19b0:decide (aD<(l1.length:Int))=true:=dT' c19;clear c19
            by_cases c20:(((rd_T51 l1 aD).f0) == ((rd_T51 l1 aA).f0) && (((rd_T51 l1 aD).f1) == ((rd_T51 l1 aA).f1)))=true
            ·rw[if_pos c20]at H;have c20b0:(((rd_T51 l1 aD).f0) == ((rd_T51 l1 aA).f0) && (((rd_T51 l1 aD).f1) == ((rd_T51 l1 aA).f1)))=true:=c20;(try(have c20b1:decide (((rd_T51 l1 aD).f0)=((rd_T51 l1 aA).f0) && (((rd_T51 l1 aD).f1) == ((rd_T51 l1 aA).f1)))=true:=by simpa using c20));(try(have c20b2:(((rd_T51 l1 aD).f0) == ((rd_T51 l1 aA).f0) && (((rd_T51 l1 aD).f1) == ((rd_T51 l1 aA).f1)))=true:=by simpa using c20));clear c20;simp only[Option.some.injEq,Prod.mk.injEq]at H;obtain⟨rfl,rfl,rfl,rfl,rfl⟩:=H;try go_wp2
             replace aC:=A' (I' aC.out);replace aG:=A' (IsS25.drew aG.out);replace HK:=A' (keep_drew HK.out);replace HB:=A' (J' HB.out);have bB:0≤(aD:Int):=oD' qA;have bA:aD<(l1.length:Int):=oD' qA;obtain⟨bG,bX,aL,aM⟩:=at_T51 (Kd.C_foot_now aS.out HK.out) aD bB bA;have bS:=aM;have bP:=aL;obtain rfl:aJ=bG:=(by injection bX)
             have bI:=(show(⟨(aJ.add ((aD).toNat*2)).block,(aJ.add ((aD).toNat*2)).off+1,none⟩:Addr).block≠g from by first|(rw[add_block];exact Kd.foot_ne aS.out (by omega) (by decide))|(show(Addr.add _ _).block≠_;rw[add_block];exact Kd.foot_ne aS.out (by omega) (by decide))|exact Kd.foot_ne aS.out (by omega) (by decide)|(dsimp only;exact Kd.foot_ne aS.out (by omega) (by decide)))
             have bH:=(Kd.foot_lt aS.out (by omega) (by decide))
             have bJ:=(show((aJ.add ((aD).toNat*2)):Addr).block≠g from by first|(rw[add_block];exact Kd.foot_ne aS.out (by omega) (by decide))|(show(Addr.add _ _).block≠_;rw[add_block];exact Kd.foot_ne aS.out (by omega) (by decide))|exact Kd.foot_ne aS.out (by omega) (by decide)|(dsimp only;exact Kd.foot_ne aS.out (by omega) (by decide)))
             have bE:=(Kd.foot_lt aS.out (by omega) (by decide))
             replace bB:=eq_true bB;replace bA:=eq_true bA;refine start_ (n:=6) (S:=fun w'=>w'.cell? ⟨aB,0,none⟩=some (.int .i64 ((rd_T51 l1 aA).f0))∧w'.cell? ⟨aB,1,none⟩=some (.int .i64 ((rd_T51 l1 aA).f1))∧w'.cell? (aJ.add ((aD).toNat*2))=some (.int .i64 ((rd_T51 l1 aD).f0))∧w'.cell? ⟨(aJ.add ((aD).toNat*2)).block,(aJ.add ((aD).toNat*2)).off+1,none⟩=some (.int .i64 ((rd_T51 l1 aD).f1))) (ds:=[]) #[n',n',n',n',n',n'] (by kernel_rfl) rfl rfl ⟨(N' aC.out 0).trans rfl,(N' aC.out 1).trans rfl,aL,aM⟩ (fun hHeld=>?_)
             generalize wr.drew=w21 at aC aG HK HB aL aM hHeld ⊢
             refine pure_ (i:=0) (N:=some 41) (v:=?_) (a':=?_) #[y',n',n',n',n',n'] rfl rfl (by kernel_rfl) (fun _ _ _ h=>h) (Or.inl ⟨by rfl,?_⟩) ?_ ?_;rotate_left
             ·exact qI
             rotate_left
             ·exact qP
             refine pure_ (i:=1) (N:=some 42) (v:=?_) (a':=?_) #[y',y',n',n',n',n'] rfl rfl (by kernel_rfl) (fun _ _ _ h=>h) (Or.inl ⟨by rfl,?_⟩) ?_ ?_;rotate_left
             ·exact qI
             rotate_left
             ·exact qP
             refine pure_ (i:=2) (N:=some 43) (v:=?_) (a':=?_) #[y',y',y',n',n',n'] rfl rfl (by kernel_rfl) (fun _ _ _ h=>h) (Or.inl ⟨by rfl,?_⟩) ?_ ?_;rotate_left
             ·exact qI
             rotate_left
             ·exact qP
             refine take_ (i:=3) (N:=some 44) (v:=?_) (a':=?_) #[y',y',y',y',n',n'] rfl rfl (by kernel_rfl) (fun _ _ _ h=>h) (Or.inl ⟨by rfl,?_⟩) hHeld ?_ ?_;rotate_left
             ·rintro w' ⟨s0,s1,s2,s3⟩;go_simp;with_reducible rfl
             rotate_left
             ·exact qP
             refine take_ (i:=4) (N:=some 45) (v:=?_) (a':=?_) #[y',y',y',y',y',n'] rfl rfl (by kernel_rfl) (fun _ _ _ h=>h) (Or.inl ⟨by rfl,?_⟩) hHeld ?_ ?_;rotate_left
             ·rintro w' ⟨s0,s1,s2,s3⟩;go_simp;with_reducible rfl
             rotate_left
             ·exact qP
             refine pure_ (i:=5) (N:=some 46) (v:=?_) (a':=?_) #[y',y',y',y',y',y'] rfl rfl (by kernel_rfl) (fun _ _ _ h=>h) (Or.inl ⟨by rfl,?_⟩) ?_ ?_;rotate_left
             ·exact qI
             rotate_left
             ·exact qP
             refine done_ (by kernel_rfl) ?_;try go_wp2
             go_ret2;exact⟨qE,qZ5_3 aG.out aI.out,qZ5_5 HB.out (IsS25.ge aG.out) aN.out,qZ5_4 HK.out aO.out⟩
            ·rw[if_neg c20]at H;have c20b0:(((rd_T51 l1 aD).f0) == ((rd_T51 l1 aA).f0) && (((rd_T51 l1 aD).f1) == ((rd_T51 l1 aA).f1)))=false:=by simpa using c20
             (try(have c20b1:decide (((rd_T51 l1 aD).f0)=((rd_T51 l1 aA).f0) && (((rd_T51 l1 aD).f1) == ((rd_T51 l1 aA).f1)))=false:=by simpa using c20));(try(have c20b2:(((rd_T51 l1 aD).f0) == ((rd_T51 l1 aA).f0) && (((rd_T51 l1 aD).f1) == ((rd_T51 l1 aA).f1)))=false:=by simpa using c20));(try(have c20b3: ¬(((rd_T51 l1 aD).f0)=((rd_T51 l1 aA).f0) && (((rd_T51 l1 aD).f1) == ((rd_T51 l1 aA).f1))):=by simpa using c20));clear c20;have H':=A' H;clear H;try go_wp2
             replace aC:=A' (I' aC.out);replace aG:=A' (IsS25.drew aG.out);replace HK:=A' (keep_drew HK.out);replace HB:=A' (J' HB.out);have bB:0≤(aD:Int):=oD' qA;have bA:aD<(l1.length:Int):=oD' qA;obtain⟨bG,bX,aL,aM⟩:=at_T51 (Kd.C_foot_now aS.out HK.out) aD bB bA;have bS:=aM;have bP:=aL;obtain rfl:aJ=bG:=(by injection bX)
             have bI:=(show(⟨(aJ.add ((aD).toNat*2)).block,(aJ.add ((aD).toNat*2)).off+1,none⟩:Addr).block≠g from by first|(rw[add_block];exact Kd.foot_ne aS.out (by omega) (by decide))|(show(Addr.add _ _).block≠_;rw[add_block];exact Kd.foot_ne aS.out (by omega) (by decide))|exact Kd.foot_ne aS.out (by omega) (by decide)|(dsimp only;exact Kd.foot_ne aS.out (by omega) (by decide)))
             have bH:=(Kd.foot_lt aS.out (by omega) (by decide))
             have bJ:=(show((aJ.add ((aD).toNat*2)):Addr).block≠g from by first|(rw[add_block];exact Kd.foot_ne aS.out (by omega) (by decide))|(show(Addr.add _ _).block≠_;rw[add_block];exact Kd.foot_ne aS.out (by omega) (by decide))|exact Kd.foot_ne aS.out (by omega) (by decide)|(dsimp only;exact Kd.foot_ne aS.out (by omega) (by decide)))
             have bE:=(Kd.foot_lt aS.out (by omega) (by decide))
             replace bB:=eq_true bB;replace bA:=eq_true bA;refine start_ (n:=6) (S:=fun w'=>w'.cell? ⟨aB,0,none⟩=some (.int .i64 ((rd_T51 l1 aA).f0))∧w'.cell? ⟨aB,1,none⟩=some (.int .i64 ((rd_T51 l1 aA).f1))∧w'.cell? (aJ.add ((aD).toNat*2))=some (.int .i64 ((rd_T51 l1 aD).f0))∧w'.cell? ⟨(aJ.add ((aD).toNat*2)).block,(aJ.add ((aD).toNat*2)).off+1,none⟩=some (.int .i64 ((rd_T51 l1 aD).f1))) (ds:=[]) #[n',n',n',n',n',n'] (by kernel_rfl) rfl rfl ⟨(N' aC.out 0).trans rfl,(N' aC.out 1).trans rfl,aL,aM⟩ (fun hHeld=>?_)
             generalize wr.drew=w22 at aC aG HK HB aL aM hHeld ⊢
             refine pure_ (i:=0) (N:=some 41) (v:=?_) (a':=?_) #[y',n',n',n',n',n'] rfl rfl (by kernel_rfl) (fun _ _ _ h=>h) (Or.inl ⟨by rfl,?_⟩) ?_ ?_;rotate_left
             ·exact qI
             rotate_left
             ·exact qP
             refine pure_ (i:=1) (N:=some 42) (v:=?_) (a':=?_) #[y',y',n',n',n',n'] rfl rfl (by kernel_rfl) (fun _ _ _ h=>h) (Or.inl ⟨by rfl,?_⟩) ?_ ?_;rotate_left
             ·exact qI
             rotate_left
             ·exact qP
             refine pure_ (i:=2) (N:=some 43) (v:=?_) (a':=?_) #[y',y',y',n',n',n'] rfl rfl (by kernel_rfl) (fun _ _ _ h=>h) (Or.inl ⟨by rfl,?_⟩) ?_ ?_;rotate_left
             ·exact qI
             rotate_left
             ·exact qP
             refine take_ (i:=3) (N:=some 44) (v:=?_) (a':=?_) #[y',y',y',y',n',n'] rfl rfl (by kernel_rfl) (fun _ _ _ h=>h) (Or.inl ⟨by rfl,?_⟩) hHeld ?_ ?_;rotate_left
             ·rintro w' ⟨s0,s1,s2,s3⟩;go_simp;with_reducible rfl
             rotate_left
             ·exact qP
             refine take_ (i:=4) (N:=some 45) (v:=?_) (a':=?_) #[y',y',y',y',y',n'] rfl rfl (by kernel_rfl) (fun _ _ _ h=>h) (Or.inl ⟨by rfl,?_⟩) hHeld ?_ ?_;rotate_left
             ·rintro w' ⟨s0,s1,s2,s3⟩;go_simp;with_reducible rfl
             rotate_left
             ·exact qP
             refine pure_ (i:=5) (N:=some 46) (v:=?_) (a':=?_) #[y',y',y',y',y',y'] rfl rfl (by kernel_rfl) (fun _ _ _ h=>h) (Or.inl ⟨by rfl,?_⟩) ?_ ?_;rotate_left
             ·exact qI
             rotate_left
             ·exact qP
             refine done_ (by kernel_rfl) ?_;try go_wp2
             go_roundg k2
             case measure=>have:=cK.out;have:=cJ.out;omega
             case rel=>exact⟨(wrap64 (aD+1)),qS,H',⟨by have:=cK.out;have:=cJ.out;omega⟩,⟨qB aC.out⟩,⟨qZ5_3 aG.out aI.out⟩,⟨qZ5_4 HK.out aO.out⟩,⟨qZ5_5 HB.out (IsS25.ge aG.out) aN.out⟩⟩
           ·rw[if_neg c19]at H;exact absurd H (by simp)
          ·rw[if_neg c18]at H;exact absurd H (by simp)
         ·rw[if_neg c17]at H;have c17b0:decide (aD<aA)=false:=dF' c17;clear c17;have H':=A' H;clear H;go_wp2
          go_roundg k2
          case measure=>have:=cK.out;have:=cJ.out;omega
          case rel=>exact⟨(wrap64 (1 - aP)),(wrap64 (aA+1)),(aU),(aV),(aT),qS,qS,H',⟨by have:=cK.out;have:=cJ.out;omega⟩,⟨qZ5_3 aG.out aI.out⟩,⟨qZ5_4 HK.out aO.out⟩,⟨qZ5_5 HB.out (IsS25.ge aG.out) aN.out⟩⟩
      ·replace c10:=Bool.eq_false_iff.mpr c10;subst c10;have H1:(some ((⟨#[115,104,101,97,118,101]⟩:ByteArray),aA,aU,aV,aT))=some (r1,r2,r3,r4,r5):=by rw[if_neg (show¬(false=true) by decide)]at H;exact H
       clear H;have H:=H1;clear H1;simp only[Option.some.injEq,Prod.mk.injEq]at H;obtain⟨rfl,rfl,rfl,rfl,rfl⟩:=H;have aQ:0≤(aA:Int):=oD' qA;have aR:aA<(l1.length:Int):=oD' qA;obtain⟨aJ,bF,aX,aW⟩:=at_T51 (Kd.C_foot_now aS.out HK.out) aA aQ aR
       cases bF
       replace aQ:=eq_true aQ;replace aR:=eq_true aR;try go_wp2_with (first|((with_reducible refine gate_dst (N:=8) rfl ?_);refine box_event ?hg (N:=8) ?hd (cs:=#[.int .i64 0,.int .i64 0]) (t:=51) ?hr ?_;(case hd=>rfl);(case hg=>rfl);(case hr=>first|(go_simp;done)|(go_simp;rfl));intro aB hg bV hbox hb;have n0_:=A' (IsS25.below (qZ5_1 aG.out) hb);have n1_:=A' (KeepBut.trans (qZ5_0 HK.out) (KeepBut.of_below hb g none) (.inl rfl));have n2_:=A' (W' (qZ5_2 HB.out (IsS25.ge aG.out)) hb);have n3_:=A' (hbox);have n4_:=A' ((by rw[hg];exact(keep_size (w:=w) (g:=g) (row:=none) (qZ5_0 HK.out)):w.heap.size≤aB));have n5_:=A' ((Nat.le_trans cM.out (by rw[hg];exact(keep_size (w:=w) (g:=g) (row:=none) (qZ5_0 HK.out)):w.heap.size≤aB):w0.heap.size≤aB));have n6_:=A' ((by rw[hg];exact Nat.ne_of_lt (IsS25.lt (show IsS25 w0 _ g aE aF aH from by repeat(first|(with_reducible first|exact aG.out|apply IsS25.alloc|apply IsS25.drewN|apply IsS25.drew|apply IsS25.set_0|apply IsS25.set_1|apply IsS25.set_2)|exact aG.out))):g≠aB));have n7_:=A' ((by rw[hg];exact Nat.ne_of_gt (IsS25.lt (show IsS25 w0 _ g aE aF aH from by repeat(first|(with_reducible first|exact aG.out|apply IsS25.alloc|apply IsS25.drewN|apply IsS25.drew|apply IsS25.set_0|apply IsS25.set_1|apply IsS25.set_2)|exact aG.out))):aB≠g));clear aG;clear HK;clear HB;have aG:=n0_;have HK:=n1_;have HB:=n2_;have aC:=n3_;have aO:=n4_;have aN:=n5_;have aI:=n6_;have aK:=n7_;clear n0_ n1_ n2_ n3_ n4_ n5_ n6_ n7_;clear hb hbox hg;have cS:=aK.out;have cT:=aI.out;have cC:bV.cell? ⟨aB,0,none⟩=some (.int .i64 0):=(N' aC.out 0).trans rfl;have cD:bV.cell? ⟨aB,1,none⟩=some (.int .i64 0):=(N' aC.out 1).trans rfl;have cH:=Y' aC.out 0;have cG:=Y' aC.out 1))
       have n0_:Aside0 (((bV.setCell ⟨aB,0,none⟩ (.int .i64 ((rd_T51 l1 aA).f0))).setCell ⟨aB,1,none⟩ (.int .i64 ((rd_T51 l1 aA).f1))).heap[aB]? =some (.cells #[.int .i64 ((rd_T51 l1 aA).f0),.int .i64 ((rd_T51 l1 aA).f1)] 51 (0,0))):=⟨by(with_reducible repeat(first|refine G' ?_ _|refine I' ?_|refine hA' ?_ _));refine blk_put (cs:=#[.int .i64 ((rd_T51 l1 aA).f0),.int .i64 0]) ?_ 1 _ rfl;(with_reducible repeat(first|refine G' ?_ _|refine I' ?_|refine hA' ?_ _));refine blk_put (cs:=#[.int .i64 0,.int .i64 0]) ?_ 0 _ rfl;(with_reducible repeat(first|refine G' ?_ _|refine I' ?_|refine hA' ?_ _));exact aC.out⟩
       have n1_:Aside0 (IsS25 w0 ((bV.setCell ⟨aB,0,none⟩ (.int .i64 ((rd_T51 l1 aA).f0))).setCell ⟨aB,1,none⟩ (.int .i64 ((rd_T51 l1 aA).f1))) g aE aF aH):=⟨qZ5_3 aG.out aI.out⟩
       have n2_:Aside0 (KeepBut w ((bV.setCell ⟨aB,0,none⟩ (.int .i64 ((rd_T51 l1 aA).f0))).setCell ⟨aB,1,none⟩ (.int .i64 ((rd_T51 l1 aA).f1))) g none):=⟨qZ5_4 HK.out aO.out⟩
       have n3_:Aside0 (Below w0.heap.size w0 ((bV.setCell ⟨aB,0,none⟩ (.int .i64 ((rd_T51 l1 aA).f0))).setCell ⟨aB,1,none⟩ (.int .i64 ((rd_T51 l1 aA).f1)))):=⟨qZ5_5 HB.out (IsS25.ge aG.out) aN.out⟩
       (try clear aC);(try clear aG);(try clear HK);(try clear HB)
       generalize ((bV.setCell ⟨aB,0,none⟩ (.int .i64 ((rd_T51 l1 aA).f0))).setCell ⟨aB,1,none⟩ (.int .i64 ((rd_T51 l1 aA).f1)))=dB at n0_ n1_ n2_ n3_ ⊢
       have aC:=n0_;have aG:=n1_;have HK:=n2_;have HB:=n3_;clear n0_ n1_ n2_ n3_;replace aC:=A' (I' aC.out);replace aG:=A' (IsS25.drew aG.out);replace HK:=A' (keep_drew HK.out);replace HB:=A' (J' HB.out);refine start_ (n:=8) (S:=fun w'=>w'.cell? ⟨aB,0,none⟩=some (.int .i64 ((rd_T51 l1 aA).f0))∧w'.cell? ⟨aB,1,none⟩=some (.int .i64 ((rd_T51 l1 aA).f1))) (ds:=[]) #[n',n',n',n',n',n',n',n'] (by kernel_rfl) rfl rfl ⟨(N' aC.out 0).trans rfl,(N' aC.out 1).trans rfl⟩ (fun hHeld=>?_);refine with_tabW spec_l07Fault.tab8 spec_l07Fault.bits8 (fun HT_ HW_=>?_)
       generalize dB.drew=w27 at aC aG HK HB hHeld ⊢
       refine pure_ (i:=0) (N:=some 27) (v:=?_) (a':=?_) #[y',n',n',n',n',n',n',n'] rfl rfl (any_of HT_.out (by kernel_rfl)) (fun _ _ _ h=>h) (Or.inl ⟨by rfl,?_⟩) ?_ ?_;rotate_left
       ·exact qI
       rotate_left
       ·exact qP
       refine pure_ (i:=2) (N:=some 29) (v:=?_) (a':=?_) #[y',n',y',n',n',n',n',n'] rfl rfl (any_of HT_.out (by kernel_rfl)) (fun _ _ _ h=>h) (Or.inl ⟨by rfl,?_⟩) ?_ ?_;rotate_left
       ·exact qI
       rotate_left
       ·exact qP
       refine pure_ (i:=3) (N:=some 30) (v:=?_) (a':=?_) #[y',n',y',y',n',n',n',n'] rfl rfl (any_of HT_.out (by kernel_rfl)) (fun _ _ _ h=>h) (Or.inl ⟨by rfl,?_⟩) ?_ ?_;rotate_left
       ·exact qI
       rotate_left
       ·exact qP
       refine take_ (i:=1) (N:=some 28) (v:=?_) (a':=?_) #[y',y',y',y',n',n',n',n'] rfl rfl (take_ofW HT_.out HW_.out (by kernel_rfl)) (fun _ _ _ h=>h) (Or.inl ⟨by rfl,?_⟩) hHeld ?_ ?_;rotate_left
       ·rintro w' ⟨s0,s1⟩;go_simp;with_reducible rfl
       rotate_left
       ·exact qP
       refine one_ (i:=4) (N:=some 31) #[y',y',y',y',y',n',n',n'] rfl rfl (one_of HT_.out (by kernel_rfl)) (by decide) (fun K hK=>?_);refine goes_ Tryz.func30 (by kernel_rfl) rfl #[.pointer (some ⟨g,0,none⟩),.int .i64 aP] (by rfl) rfl rfl (by(try simp only[List.map_toArray,List.map_cons,List.map_nil]);first|done|rfl|(simp only[List.length_drop,List.length_take];rfl)) ?_
       with_reducible refine(spec_l07Many.calls g aE aF aH aP bC aU aV aT w0 _ ?aZ ?aY A8.out).mono ?_
       (case aZ=>repeat(first|(with_reducible first|exact aG.out|apply IsS25.alloc|apply IsS25.drewN|apply IsS25.drew|apply IsS25.set_0|apply IsS25.set_1|apply IsS25.set_2|refine IsS25.far ?_ aI.out _)|exact aG.out));(case aY=>repeat(first|(with_reducible first|exact HB.out|apply K'|apply F'|apply J'|refine E' ?_ (IsS25.ge aG.out)|refine E' ?_ aN.out)|exact HB.out));rintro e dC ⟨rfl,hi,hb,hk⟩;refine⟨_,rfl,?_⟩;replace aC:=A' (KeepBut.blk hk (g':=aB) (o:=.cells #[.int .i64 ((rd_T51 l1 aA).f0),.int .i64 ((rd_T51 l1 aA).f1)] 51 (0,0)) (qB aC.out) aK.out (by simp));replace HK:=A' (KeepBut.trans (qZ5_4 HK.out aO.out) hk (.inl rfl));replace HB:=A' (hb);replace aG:=A' (hi);(try clear hb);(try clear hb2);(try clear hk);(try clear hi);refine hK.out _ _ ⟨(N' aC.out 0).trans rfl,(N' aC.out 1).trans rfl⟩ (fun hHeld=>?_);clear hK K;refine norm_ (a':=?_) ?_ ?_;rotate_left
       ·show Act.put _ (some 31) _=_
        exact qP
       refine pure_ (i:=5) (N:=some 32) (v:=?_) (a':=?_) #[y',y',y',y',y',y',n',n'] rfl rfl (any_of HT_.out (by kernel_rfl)) (fun _ _ _ h=>h) (Or.inl ⟨by rfl,?_⟩) ?_ ?_;rotate_left
       ·exact qI
       rotate_left
       ·exact qP
       refine one_ (i:=6) (N:=some 33) #[y',y',y',y',y',y',y',n'] rfl rfl (one_of HT_.out (by kernel_rfl)) (by decide) (fun K hK=>?_);refine goes_ Tryz.func58 (by kernel_rfl) rfl #[.int .i64 ((rd_T51 l1 aA).f1),.int .i64 0,.int .i64 (wrap64 (bC - 1))] (by rfl) rfl rfl (by(try simp only[List.map_toArray,List.map_cons,List.map_nil]);first|done|rfl|(simp only[List.length_drop,List.length_take];rfl)) ?_
       with_reducible refine(spec_l00In.calls ((rd_T51 l1 aA).f1) 0 (wrap64 (bC - 1)) false _ A9.out).mono ?_
       rintro e w' ⟨rfl,⟨nd,rfl⟩⟩;refine⟨_,rfl,?_⟩;refine hK.out _ _ ⟨(N' aC.out 0).trans rfl,(N' aC.out 1).trans rfl⟩ (fun hHeld=>?_);clear hK K;refine norm_ (a':=?_) ?_ ?_;rotate_left
       ·show Act.put _ (some 33) _=_
        exact qP
       refine pure_ (i:=7) (N:=some 34) (v:=?_) (a':=?_) #[y',y',y',y',y',y',y',y'] rfl rfl (any_of HT_.out (by kernel_rfl)) (fun _ _ _ h=>h) (Or.inl ⟨by rfl,?_⟩) ?_ ?_;rotate_left
       ·exact qI
       rotate_left
       ·exact qP
       refine done_ (done_of HT_.out (by kernel_rfl)) ?_;try go_wp2
       go_ret2;exact⟨qE,qZ5_3 aG.out aI.out,qZ5_5 HB.out (IsS25.ge aG.out) aN.out,qZ5_4 HK.out aO.out⟩
     ·rw[if_neg c7]at H;have c7b0:(((rd_T51 l1 aA).f0) == aP)=false:=beq_eq_false_iff_ne.mpr c7;have c7b1:(((rd_T51 l1 aA).f0) != aP)=true:=bne_iff_ne.mpr c7;simp only[Option.some.injEq,Prod.mk.injEq]at H;obtain⟨rfl,rfl,rfl,rfl,rfl⟩:=H;have aQ:0≤(aA:Int):=oD' qA;have aR:aA<(l1.length:Int):=oD' qA;obtain⟨aJ,bF,aX,aW⟩:=at_T51 (Kd.C_foot_now aS.out HK.out) aA aQ aR
      cases bF
      replace aQ:=eq_true aQ;replace aR:=eq_true aR;go_wp2_with (first|((with_reducible refine gate_dst (N:=8) rfl ?_);refine box_event ?hg (N:=8) ?hd (cs:=#[.int .i64 0,.int .i64 0]) (t:=51) ?hr ?_;(case hd=>rfl);(case hg=>rfl);(case hr=>first|(go_simp;done)|(go_simp;rfl));intro aB hg cN hbox hb;have n0_:=A' (IsS25.below (qZ5_1 aG.out) hb);have n1_:=A' (KeepBut.trans (qZ5_0 HK.out) (KeepBut.of_below hb g none) (.inl rfl));have n2_:=A' (W' (qZ5_2 HB.out (IsS25.ge aG.out)) hb);have n3_:=A' (hbox);have n4_:=A' ((by rw[hg];exact(keep_size (w:=w) (g:=g) (row:=none) (qZ5_0 HK.out)):w.heap.size≤aB));have n5_:=A' ((Nat.le_trans cM.out (by rw[hg];exact(keep_size (w:=w) (g:=g) (row:=none) (qZ5_0 HK.out)):w.heap.size≤aB):w0.heap.size≤aB));have n6_:=A' ((by rw[hg];exact Nat.ne_of_lt (IsS25.lt (show IsS25 w0 _ g aE aF aH from by repeat(first|(with_reducible first|exact aG.out|apply IsS25.alloc|apply IsS25.drewN|apply IsS25.drew|apply IsS25.set_0|apply IsS25.set_1|apply IsS25.set_2)|exact aG.out))):g≠aB));have n7_:=A' ((by rw[hg];exact Nat.ne_of_gt (IsS25.lt (show IsS25 w0 _ g aE aF aH from by repeat(first|(with_reducible first|exact aG.out|apply IsS25.alloc|apply IsS25.drewN|apply IsS25.drew|apply IsS25.set_0|apply IsS25.set_1|apply IsS25.set_2)|exact aG.out))):aB≠g));clear aG;clear HK;clear HB;have aG:=n0_;have HK:=n1_;have HB:=n2_;have aC:=n3_;have aO:=n4_;have aN:=n5_;have aI:=n6_;have aK:=n7_;clear n0_ n1_ n2_ n3_ n4_ n5_ n6_ n7_;clear hb hbox hg;have cV:=aK.out;have cP:=aI.out;have cI:cN.cell? ⟨aB,0,none⟩=some (.int .i64 0):=(N' aC.out 0).trans rfl;have cF:cN.cell? ⟨aB,1,none⟩=some (.int .i64 0):=(N' aC.out 1).trans rfl;have cE:=Y' aC.out 0;have cL:=Y' aC.out 1));go_ret2;exact⟨qE,qZ5_3 aG.out aI.out,qZ5_5 HB.out (IsS25.ge aG.out) aN.out,qZ5_4 HK.out aO.out⟩
    ·rw[if_neg c6]at H;exact absurd H (by simp)
   ·rw[if_neg c5]at H;have c5b0:decide (aA<(l1.length:Int))=false:=dF' c5;clear c5
    by_cases c32:(l1.length:Int)<(wrap64 (aE+aF))
    ·rw[if_pos c32]at H;have c32b0:decide ((l1.length:Int)<(wrap64 (aE+aF)))=true:=dT' c32;clear c32;simp only[Option.some.injEq,Prod.mk.injEq]at H;obtain⟨rfl,rfl,rfl,rfl,rfl⟩:=H;try go_wp2
     replace aG:=A' (IsS25.drew aG.out);replace HK:=A' (keep_drew HK.out);replace HB:=A' (J' HB.out);refine start_ (n:=12) (S:=fun w'=>w'.cell? ⟨g,0,none⟩=some (.int .i64 aE)∧w'.cell? ⟨g,1,none⟩=some (.int .i64 aF)∧w'.cell? ⟨g,2,none⟩=some (.bool aH)) (ds:=[]) #[n',n',n',n',n',n',n',n',n',n',n',n'] (by kernel_rfl) rfl rfl ⟨(N' (A' aG.out.1).out 0).trans rfl,(N' (A' aG.out.1).out 1).trans rfl,(N' (A' aG.out.1).out 2).trans rfl⟩ (fun hHeld=>?_);refine with_tabW spec_l07Fault.tab16 spec_l07Fault.bits16 (fun HT_ HW_=>?_)
     generalize wr.drew=w33 at aG HK HB hHeld ⊢
     refine pure_ (i:=0) (N:=some 50) (v:=?_) (a':=?_) #[y',n',n',n',n',n',n',n',n',n',n',n'] rfl rfl (any_of HT_.out (by kernel_rfl)) (fun _ _ _ h=>h) (Or.inl ⟨by rfl,?_⟩) ?_ ?_;rotate_left
     ·exact qI
     rotate_left
     ·exact qP
     refine pure_ (i:=1) (N:=some 51) (v:=?_) (a':=?_) #[y',y',n',n',n',n',n',n',n',n',n',n'] rfl rfl (any_of HT_.out (by kernel_rfl)) (fun _ _ _ h=>h) (Or.inl ⟨by rfl,?_⟩) ?_ ?_;rotate_left
     ·exact qI
     rotate_left
     ·exact qP
     refine pure_ (i:=2) (N:=some 52) (v:=?_) (a':=?_) #[y',y',y',n',n',n',n',n',n',n',n',n'] rfl rfl (any_of HT_.out (by kernel_rfl)) (fun _ _ _ h=>h) (Or.inl ⟨by rfl,?_⟩) ?_ ?_;rotate_left
     ·exact qI
     rotate_left
     ·exact qP
     refine pure_ (i:=3) (N:=some 53) (v:=?_) (a':=?_) #[y',y',y',y',n',n',n',n',n',n',n',n'] rfl rfl (any_of HT_.out (by kernel_rfl)) (fun _ _ _ h=>h) (Or.inl ⟨by rfl,?_⟩) ?_ ?_;rotate_left
     ·exact qI
     rotate_left
     ·exact qP
     refine pure_ (i:=4) (N:=some 54) (v:=?_) (a':=?_) #[y',y',y',y',y',n',n',n',n',n',n',n'] rfl rfl (any_of HT_.out (by kernel_rfl)) (fun _ _ _ h=>h) (Or.inl ⟨by rfl,?_⟩) ?_ ?_;rotate_left
     ·exact qI
     rotate_left
     ·exact qP
     refine pure_ (i:=6) (N:=some 56) (v:=?_) (a':=?_) #[y',y',y',y',y',n',y',n',n',n',n',n'] rfl rfl (any_of HT_.out (by kernel_rfl)) (fun _ _ _ h=>h) (Or.inl ⟨by rfl,?_⟩) ?_ ?_;rotate_left
     ·exact qI
     rotate_left
     ·exact qP
     refine pure_ (i:=7) (N:=some 57) (v:=?_) (a':=?_) #[y',y',y',y',y',n',y',y',n',n',n',n'] rfl rfl (any_of HT_.out (by kernel_rfl)) (fun _ _ _ h=>h) (Or.inl ⟨by rfl,?_⟩) ?_ ?_;rotate_left
     ·exact qI
     rotate_left
     ·exact qP
     refine pure_ (i:=8) (N:=some 58) (v:=?_) (a':=?_) #[y',y',y',y',y',n',y',y',y',n',n',n'] rfl rfl (any_of HT_.out (by kernel_rfl)) (fun _ _ _ h=>h) (Or.inl ⟨by rfl,?_⟩) ?_ ?_;rotate_left
     ·exact qI
     rotate_left
     ·exact qP
     refine take_ (i:=5) (N:=some 55) (v:=?_) (a':=?_) #[y',y',y',y',y',y',y',y',y',n',n',n'] rfl rfl (take_ofW HT_.out HW_.out (by kernel_rfl)) (fun _ _ _ h=>h) (Or.inl ⟨by rfl,?_⟩) hHeld ?_ ?_;rotate_left
     ·rintro w' ⟨s0,s1,s2⟩;go_simp;with_reducible rfl
     rotate_left
     ·exact qP
     refine take_ (i:=9) (N:=some 59) (v:=?_) (a':=?_) #[y',y',y',y',y',y',y',y',y',y',n',n'] rfl rfl (take_ofW HT_.out HW_.out (by kernel_rfl)) (fun _ _ _ h=>h) (Or.inl ⟨by rfl,?_⟩) hHeld ?_ ?_;rotate_left
     ·rintro w' ⟨s0,s1,s2⟩;go_simp;with_reducible rfl
     rotate_left
     ·exact qP
     refine pure_ (i:=10) (N:=some 60) (v:=?_) (a':=?_) #[y',y',y',y',y',y',y',y',y',y',y',n'] rfl rfl (any_of HT_.out (by kernel_rfl)) (fun _ _ _ h=>h) (Or.inl ⟨by rfl,?_⟩) ?_ ?_;rotate_left
     ·exact qI
     rotate_left
     ·exact qP
     refine pure_ (i:=11) (N:=some 61) (v:=?_) (a':=?_) #[y',y',y',y',y',y',y',y',y',y',y',y'] rfl rfl (any_of HT_.out (by kernel_rfl)) (fun _ _ _ h=>h) (Or.inl ⟨by rfl,?_⟩) ?_ ?_;rotate_left
     ·exact qI
     rotate_left
     ·exact qP
     refine done_ (done_of HT_.out (by kernel_rfl)) ?_;try go_wp2
     go_ret2;exact⟨qE,qZ5_1 aG.out,qZ5_2 HB.out (IsS25.ge aG.out),qZ5_0 HK.out⟩
    ·rw[if_neg c32]at H;have c32b0:decide ((l1.length:Int)<(wrap64 (aE+aF)))=false:=dF' c32;clear c32;simp only[Option.some.injEq,Prod.mk.injEq]at H;obtain⟨rfl,rfl,rfl,rfl,rfl⟩:=H;try go_wp2
     replace aG:=A' (IsS25.drew aG.out);replace HK:=A' (keep_drew HK.out);replace HB:=A' (J' HB.out);refine start_ (n:=12) (S:=fun w'=>w'.cell? ⟨g,0,none⟩=some (.int .i64 aE)∧w'.cell? ⟨g,1,none⟩=some (.int .i64 aF)∧w'.cell? ⟨g,2,none⟩=some (.bool aH)) (ds:=[]) #[n',n',n',n',n',n',n',n',n',n',n',n'] (by kernel_rfl) rfl rfl ⟨(N' (A' aG.out.1).out 0).trans rfl,(N' (A' aG.out.1).out 1).trans rfl,(N' (A' aG.out.1).out 2).trans rfl⟩ (fun hHeld=>?_);refine with_tabW spec_l07Fault.tab16 spec_l07Fault.bits16 (fun HT_ HW_=>?_)
     generalize wr.drew=w34 at aG HK HB hHeld ⊢
     refine pure_ (i:=0) (N:=some 50) (v:=?_) (a':=?_) #[y',n',n',n',n',n',n',n',n',n',n',n'] rfl rfl (any_of HT_.out (by kernel_rfl)) (fun _ _ _ h=>h) (Or.inl ⟨by rfl,?_⟩) ?_ ?_;rotate_left
     ·exact qI
     rotate_left
     ·exact qP
     refine pure_ (i:=1) (N:=some 51) (v:=?_) (a':=?_) #[y',y',n',n',n',n',n',n',n',n',n',n'] rfl rfl (any_of HT_.out (by kernel_rfl)) (fun _ _ _ h=>h) (Or.inl ⟨by rfl,?_⟩) ?_ ?_;rotate_left
     ·exact qI
     rotate_left
     ·exact qP
     refine pure_ (i:=2) (N:=some 52) (v:=?_) (a':=?_) #[y',y',y',n',n',n',n',n',n',n',n',n'] rfl rfl (any_of HT_.out (by kernel_rfl)) (fun _ _ _ h=>h) (Or.inl ⟨by rfl,?_⟩) ?_ ?_;rotate_left
     ·exact qI
     rotate_left
     ·exact qP
     refine pure_ (i:=3) (N:=some 53) (v:=?_) (a':=?_) #[y',y',y',y',n',n',n',n',n',n',n',n'] rfl rfl (any_of HT_.out (by kernel_rfl)) (fun _ _ _ h=>h) (Or.inl ⟨by rfl,?_⟩) ?_ ?_;rotate_left
     ·exact qI
     rotate_left
     ·exact qP
     refine pure_ (i:=4) (N:=some 54) (v:=?_) (a':=?_) #[y',y',y',y',y',n',n',n',n',n',n',n'] rfl rfl (any_of HT_.out (by kernel_rfl)) (fun _ _ _ h=>h) (Or.inl ⟨by rfl,?_⟩) ?_ ?_;rotate_left
     ·exact qI
     rotate_left
     ·exact qP
     refine pure_ (i:=6) (N:=some 56) (v:=?_) (a':=?_) #[y',y',y',y',y',n',y',n',n',n',n',n'] rfl rfl (any_of HT_.out (by kernel_rfl)) (fun _ _ _ h=>h) (Or.inl ⟨by rfl,?_⟩) ?_ ?_;rotate_left
     ·exact qI
     rotate_left
     ·exact qP
     refine pure_ (i:=7) (N:=some 57) (v:=?_) (a':=?_) #[y',y',y',y',y',n',y',y',n',n',n',n'] rfl rfl (any_of HT_.out (by kernel_rfl)) (fun _ _ _ h=>h) (Or.inl ⟨by rfl,?_⟩) ?_ ?_;rotate_left
     ·exact qI
     rotate_left
     ·exact qP
     refine pure_ (i:=8) (N:=some 58) (v:=?_) (a':=?_) #[y',y',y',y',y',n',y',y',y',n',n',n'] rfl rfl (any_of HT_.out (by kernel_rfl)) (fun _ _ _ h=>h) (Or.inl ⟨by rfl,?_⟩) ?_ ?_;rotate_left
     ·exact qI
     rotate_left
     ·exact qP
     refine take_ (i:=5) (N:=some 55) (v:=?_) (a':=?_) #[y',y',y',y',y',y',y',y',y',n',n',n'] rfl rfl (take_ofW HT_.out HW_.out (by kernel_rfl)) (fun _ _ _ h=>h) (Or.inl ⟨by rfl,?_⟩) hHeld ?_ ?_;rotate_left
     ·rintro w' ⟨s0,s1,s2⟩;go_simp;with_reducible rfl
     rotate_left
     ·exact qP
     refine take_ (i:=9) (N:=some 59) (v:=?_) (a':=?_) #[y',y',y',y',y',y',y',y',y',y',n',n'] rfl rfl (take_ofW HT_.out HW_.out (by kernel_rfl)) (fun _ _ _ h=>h) (Or.inl ⟨by rfl,?_⟩) hHeld ?_ ?_;rotate_left
     ·rintro w' ⟨s0,s1,s2⟩;go_simp;with_reducible rfl
     rotate_left
     ·exact qP
     refine pure_ (i:=10) (N:=some 60) (v:=?_) (a':=?_) #[y',y',y',y',y',y',y',y',y',y',y',n'] rfl rfl (any_of HT_.out (by kernel_rfl)) (fun _ _ _ h=>h) (Or.inl ⟨by rfl,?_⟩) ?_ ?_;rotate_left
     ·exact qI
     rotate_left
     ·exact qP
     refine pure_ (i:=11) (N:=some 61) (v:=?_) (a':=?_) #[y',y',y',y',y',y',y',y',y',y',y',y'] rfl rfl (any_of HT_.out (by kernel_rfl)) (fun _ _ _ h=>h) (Or.inl ⟨by rfl,?_⟩) ?_ ?_;rotate_left
     ·exact qI
     rotate_left
     ·exact qP
     refine done_ (done_of HT_.out (by kernel_rfl)) ?_;try go_wp2
     go_ret2;exact⟨qE,qZ5_1 aG.out,qZ5_2 HB.out (IsS25.ge aG.out),qZ5_0 HK.out⟩
/-! ### spec_l07Code: function 29 -/
def spec_l07Code.f (k:Nat) (aD:Int) (aC:Int) (aE:Bool) (l1:List (S51)):Option (Int×Int×Int×Bool):=(spec_l05One.f k aD aC aE).bind fun aB=>(if aB.1=true then((spec_l07Fault.f k aB.2.1 aB.2.2.1 aB.2.2.2 l1).bind fun aA=>(if aA.1.toList=([110,111,110,101]:List UInt8)then(some (0,aA.2.2.1,aA.2.2.2.1,aA.2.2.2.2))else(some (8,aA.2.2.1,aA.2.2.2.1,aA.2.2.2.2))))else(some (1,aB.2.1,aB.2.2.1,aB.2.2.2)))
theorem spec_l07Code.mono: ∀a0 a1 a2 a3 k,LeO (spec_l07Code.f k a0 a1 a2 a3) (spec_l07Code.f (k+1) a0 a1 a2 a3):=by
 intro a0 a1 a2 a3 k
 unfold spec_l07Code.f
 repeat' first
   |(with_reducible exact spec_l05One.mono _ _ _ _)
   |(with_reducible exact spec_l07Fault.mono _ _ _ _ _)
   |(with_reducible exact LeO.refl _)
   |(with_reducible exact LeO.none _)
   |(with_reducible refine LeO.ite ?_ ?_)
   |(with_reducible refine LeO.bind ?_ (fun _=>?_))
   |exact LeO.none _
   |refine LeO.ite ?_ ?_
   |refine LeO.bind ?_ (fun _=>?_)
set_option maxHeartbeats 8000000 in
set_option maxRecDepth 100000 in
theorem spec_l07Code.calls (k:Nat) (g:Nat) (aL:Int) (aJ:Int) (aK:Bool) (A1:Option Addr) (c1:Nat) (l1:List (S51)) (r1:Int) (r2:Int) (r3:Int) (r4:Bool) (w0 w:World) (hI:IsS25 w0 w g aL aJ aK) (hB:Below w0.heap.size w0 w) (aT: ∀W_,KeepBut w W_ g none→Kd.C k51 W_ A1 l1.length l1) (aW:l1.length≤c1) (h:spec_l07Code.f k aL aJ aK l1=some (r1,r2,r3,r4)):
  Calls Tryz.prog 29 #[.pointer (some ⟨g,0,none⟩),.slice A1 l1.length c1] w fun e w'=>e= .returned (.int .i64 r1)∧IsS25 w0 w' g r2 r3 r4∧Below w0.heap.size w0 w'∧KeepBut w w' g none:=by
 have aY:=A' aT;have aU:=A' aW;clear aT aW;have aD:=A' hI;have HK:=A' (KeepBut.refl w g none);have HL:=A' hB.size;clear hI;have aZ:=A' hB.size;have HB:=A' hB;clear hB;have H:((spec_l05One.f k aL aJ aK).bind fun aE=>(if aE.1=true then((spec_l07Fault.f k aE.2.1 aE.2.2.1 aE.2.2.2 l1).bind fun aA=>(if aA.1.toList=([110,111,110,101]:List UInt8)then(some (0,aA.2.2.1,aA.2.2.2.1,aA.2.2.2.2))else(some (8,aA.2.2.1,aA.2.2.2.1,aA.2.2.2.2))))else(some (1,aE.2.1,aE.2.2.1,aE.2.2.2))))=some (r1,r2,r3,r4):=h;clear h;replace H:=Option.bind_eq_some_iff.mp H;obtain⟨⟨aS,aG,aH,aF⟩,aX,H⟩:=H;replace H:(if aS=true then((spec_l07Fault.f k aG aH aF l1).bind fun aA=>(if aA.1.toList=([110,111,110,101]:List UInt8)then(some (0,aA.2.2.1,aA.2.2.2.1,aA.2.2.2.2))else(some (8,aA.2.2.1,aA.2.2.2.1,aA.2.2.2.2))))else(some (1,aG,aH,aF)))=some (r1,r2,r3,r4):=H;have A3:=A' aX;clear aX
 by_cases c4:aS=true
 ·subst c4;have H1:((spec_l07Fault.f k aG aH aF l1).bind fun aA=>(if aA.1.toList=([110,111,110,101]:List UInt8)then(some (0,aA.2.2.1,aA.2.2.2.1,aA.2.2.2.2))else(some (8,aA.2.2.1,aA.2.2.2.1,aA.2.2.2.2))))=some (r1,r2,r3,r4):=by rw[if_pos rfl]at H;exact H
  clear H;have H:=H1;clear H1;replace H:=Option.bind_eq_some_iff.mp H;obtain⟨⟨aI,aR,aO,aQ,aP⟩,aV,H⟩:=H;replace H:(if aI.toList=([110,111,110,101]:List UInt8)then(some (0,aO,aQ,aP))else(some (8,aO,aQ,aP)))=some (r1,r2,r3,r4):=H;have A5:=A' aV;clear aV
  by_cases c6:aI.toList=([110,111,110,101]:List UInt8)
  ·rw[if_pos c6]at H;have c6b0:(aI.toList == ([110,111,110,101]:List UInt8))=true:=beq_iff_eq.mpr c6;have c6b1:(aI.toList != ([110,111,110,101]:List UInt8))=false:=bne_eq_false_iff_eq.mpr c6;clear c6;simp only[Option.some.injEq,Prod.mk.injEq]at H;obtain⟨rfl,rfl,rfl,rfl⟩:=H;go_enter Tryz.func29,Tryz.ntmps29;go_wp2_with (first|((with_reducible refine gate_callee (f:=33) rfl ?_);refine goesL_ (some 8) rfl rfl Tryz.func33 (by kernel_rfl) rfl #[.pointer (some ⟨g,0,none⟩)] rfl (by(try simp only[List.map_toArray,List.map_cons,List.map_nil]);first|done|rfl|(simp only[List.length_drop,List.length_take];rfl)) ?_;(with_reducible refine(spec_l05One.calls k g aL aJ aK true aG aH aF w0 _ ?aC ?aB A3.out).mono ?_);(case aC=>repeat(first|(with_reducible first|exact aD.out|apply IsS25.alloc|apply IsS25.drewN|apply IsS25.drew|apply IsS25.set_0|apply IsS25.set_1|apply IsS25.set_2)|exact aD.out));(case aB=>repeat(first|(with_reducible first|exact HB.out|apply K'|apply F'|apply J'|refine E' ?_ (IsS25.ge aD.out))|exact HB.out));rintro e w7 ⟨rfl,hi,hb,hk⟩;refine⟨_,rfl,?_⟩;replace HK:=A' (KeepBut.trans (qZ5_0 HK.out) hk (.inl rfl));replace HB:=A' (hb);replace aD:=A' (hi);(try clear hb);(try clear hb2);(try clear hk);(try clear hi))|((with_reducible refine gate_callee (f:=34) rfl ?_);refine goesL_ (some 13) rfl rfl Tryz.func34 (by kernel_rfl) rfl #[.pointer (some ⟨g,0,none⟩),.slice A1 l1.length c1] rfl (by(try simp only[List.map_toArray,List.map_cons,List.map_nil]);first|done|rfl|(simp only[List.length_drop,List.length_take];rfl)) ?_;(with_reducible refine(spec_l07Fault.calls k g aG aH aF _ _ l1 aI aR aO aQ aP w0 _ ?aC ?aB ?aM ?aN A5.out).mono ?_);(case aC=>repeat(first|(with_reducible first|exact aD.out|apply IsS25.alloc|apply IsS25.drewN|apply IsS25.drew|apply IsS25.set_0|apply IsS25.set_1|apply IsS25.set_2)|exact aD.out));(case aB=>repeat(first|(with_reducible first|exact HB.out|apply K'|apply F'|apply J'|refine E' ?_ (IsS25.ge aD.out))|exact HB.out));(case aM=>exact Kd.C_foot_step aY.out (qZ5_0 HK.out));(case aN=>exact aU.out);rintro e w8 ⟨rfl,hi,hb,hk⟩;refine⟨_,rfl,?_⟩;replace HK:=A' (KeepBut.trans (qZ5_0 HK.out) hk (.inl rfl));replace HB:=A' (hb);replace aD:=A' (hi);(try clear hb);(try clear hb2);(try clear hk);(try clear hi)));go_ret;exact⟨qE,qZ5_1 aD.out,qZ5_2 HB.out (IsS25.ge aD.out),qZ5_0 HK.out⟩
  ·rw[if_neg c6]at H;have c6b0:(aI.toList == ([110,111,110,101]:List UInt8))=false:=beq_eq_false_iff_ne.mpr c6;have c6b1:(aI.toList != ([110,111,110,101]:List UInt8))=true:=bne_iff_ne.mpr c6;simp only[Option.some.injEq,Prod.mk.injEq]at H;obtain⟨rfl,rfl,rfl,rfl⟩:=H;go_enter Tryz.func29,Tryz.ntmps29;go_wp2_with (first|((with_reducible refine gate_callee (f:=33) rfl ?_);refine goesL_ (some 8) rfl rfl Tryz.func33 (by kernel_rfl) rfl #[.pointer (some ⟨g,0,none⟩)] rfl (by(try simp only[List.map_toArray,List.map_cons,List.map_nil]);first|done|rfl|(simp only[List.length_drop,List.length_take];rfl)) ?_;(with_reducible refine(spec_l05One.calls k g aL aJ aK true aG aH aF w0 _ ?aC ?aB A3.out).mono ?_);(case aC=>repeat(first|(with_reducible first|exact aD.out|apply IsS25.alloc|apply IsS25.drewN|apply IsS25.drew|apply IsS25.set_0|apply IsS25.set_1|apply IsS25.set_2)|exact aD.out));(case aB=>repeat(first|(with_reducible first|exact HB.out|apply K'|apply F'|apply J'|refine E' ?_ (IsS25.ge aD.out))|exact HB.out));rintro e w9 ⟨rfl,hi,hb,hk⟩;refine⟨_,rfl,?_⟩;replace HK:=A' (KeepBut.trans (qZ5_0 HK.out) hk (.inl rfl));replace HB:=A' (hb);replace aD:=A' (hi);(try clear hb);(try clear hb2);(try clear hk);(try clear hi))|((with_reducible refine gate_callee (f:=34) rfl ?_);refine goesL_ (some 13) rfl rfl Tryz.func34 (by kernel_rfl) rfl #[.pointer (some ⟨g,0,none⟩),.slice A1 l1.length c1] rfl (by(try simp only[List.map_toArray,List.map_cons,List.map_nil]);first|done|rfl|(simp only[List.length_drop,List.length_take];rfl)) ?_;(with_reducible refine(spec_l07Fault.calls k g aG aH aF _ _ l1 aI aR aO aQ aP w0 _ ?aC ?aB ?aM ?aN A5.out).mono ?_);(case aC=>repeat(first|(with_reducible first|exact aD.out|apply IsS25.alloc|apply IsS25.drewN|apply IsS25.drew|apply IsS25.set_0|apply IsS25.set_1|apply IsS25.set_2)|exact aD.out));(case aB=>repeat(first|(with_reducible first|exact HB.out|apply K'|apply F'|apply J'|refine E' ?_ (IsS25.ge aD.out))|exact HB.out));(case aM=>exact Kd.C_foot_step aY.out (qZ5_0 HK.out));(case aN=>exact aU.out);rintro e bA ⟨rfl,hi,hb,hk⟩;refine⟨_,rfl,?_⟩;replace HK:=A' (KeepBut.trans (qZ5_0 HK.out) hk (.inl rfl));replace HB:=A' (hb);replace aD:=A' (hi);(try clear hb);(try clear hb2);(try clear hk);(try clear hi)));go_ret;exact⟨qE,qZ5_1 aD.out,qZ5_2 HB.out (IsS25.ge aD.out),qZ5_0 HK.out⟩
 ·replace c4:=Bool.eq_false_iff.mpr c4;subst c4;have H1:(some (1,aG,aH,aF))=some (r1,r2,r3,r4):=by rw[if_neg (show¬(false=true) by decide)]at H;exact H
  clear H;have H:=H1;clear H1;simp only[Option.some.injEq,Prod.mk.injEq]at H;obtain⟨rfl,rfl,rfl,rfl⟩:=H;go_enter Tryz.func29,Tryz.ntmps29;go_wp2_with (first|((with_reducible refine gate_callee (f:=33) rfl ?_);refine goesL_ (some 8) rfl rfl Tryz.func33 (by kernel_rfl) rfl #[.pointer (some ⟨g,0,none⟩)] rfl (by(try simp only[List.map_toArray,List.map_cons,List.map_nil]);first|done|rfl|(simp only[List.length_drop,List.length_take];rfl)) ?_;(with_reducible refine(spec_l05One.calls k g aL aJ aK false aG aH aF w0 _ ?aC ?aB A3.out).mono ?_);(case aC=>repeat(first|(with_reducible first|exact aD.out|apply IsS25.alloc|apply IsS25.drewN|apply IsS25.drew|apply IsS25.set_0|apply IsS25.set_1|apply IsS25.set_2)|exact aD.out));(case aB=>repeat(first|(with_reducible first|exact HB.out|apply K'|apply F'|apply J'|refine E' ?_ (IsS25.ge aD.out))|exact HB.out));rintro e bB ⟨rfl,hi,hb,hk⟩;refine⟨_,rfl,?_⟩;replace HK:=A' (KeepBut.trans (qZ5_0 HK.out) hk (.inl rfl));replace HB:=A' (hb);replace aD:=A' (hi);(try clear hb);(try clear hb2);(try clear hk);(try clear hi)));go_ret;exact⟨qE,qZ5_1 aD.out,qZ5_2 HB.out (IsS25.ge aD.out),qZ5_0 HK.out⟩
/-! ### spec_MirrorWay: function 7 -/
def spec_MirrorWay.l0:Nat→List (S51)→List (S51)→Int→Int→Int→Bool→Option ((List (S51))×Int)
 |0,_,_,_,_,_,_=>none
 |k+1,x1,x7,x8,aC,aD,aB=>if x8<(x1.length:Int)then(if 0≤x8 then((spec_l07Many.f aC aD aB ((rd_T51 x1 x8).f0)).bind fun aA=>(if x7.length<8796093022208 then(spec_MirrorWay.l0 k x1 (x7 ++ [(⟨(rd_T51 x1 x8).f0,wrap64 ((wrap64 (aA.1 - 1)) - ((rd_T51 x1 x8).f1))⟩:S51)]) (wrap64 (x8+1)) aA.2.1 aA.2.2.1 aA.2.2.2)else(none)))else(none))else(some (x7,0))
def spec_MirrorWay.f (k:Nat) (aB:Int) (aC:Int) (aD:Bool) (l1:List (S51)):Option ((List (S51))×Int):=(spec_l07Code.f k aB aC aD l1).bind fun aA=>(if aA.1=0 then(spec_MirrorWay.l0 k l1 (([]:List (S51))) 0 aA.2.1 aA.2.2.1 aA.2.2.2)else(some (([]:List (S51)),aA.1)))
theorem spec_MirrorWay.mono_l: ∀k,(∀y0 y1 y2 y3 y4 y5,LeO (spec_MirrorWay.l0 k y0 y1 y2 y3 y4 y5) (spec_MirrorWay.l0 (k+1) y0 y1 y2 y3 y4 y5))
 |0=>fun _ _ _ _ _ _ r h=>by simp[spec_MirrorWay.l0]at h
 |k+1=>by
  have aA:=spec_MirrorWay.mono_l k
  ·intro y0 y1 y2 y3 y4 y5
   unfold spec_MirrorWay.l0
   repeat' first
   |(with_reducible exact aA _ _ _ _ _ _)
   |(with_reducible exact spec_l07Code.mono _ _ _ _ _)
   |(with_reducible exact LeO.refl _)
   |(with_reducible exact LeO.none _)
   |(with_reducible refine LeO.ite ?_ ?_)
   |(with_reducible refine LeO.bind ?_ (fun _=>?_))
   |exact LeO.none _
   |refine LeO.ite ?_ ?_
   |refine LeO.bind ?_ (fun _=>?_)
theorem spec_MirrorWay.mono: ∀a0 a1 a2 a3 k,LeO (spec_MirrorWay.f k a0 a1 a2 a3) (spec_MirrorWay.f (k+1) a0 a1 a2 a3):=by
 intro a0 a1 a2 a3 k
 have aA:=spec_MirrorWay.mono_l k
 unfold spec_MirrorWay.f
 repeat' first
   |(with_reducible exact aA _ _ _ _ _ _)
   |(with_reducible exact spec_l07Code.mono _ _ _ _ _)
   |(with_reducible exact LeO.refl _)
   |(with_reducible exact LeO.none _)
   |(with_reducible refine LeO.ite ?_ ?_)
   |(with_reducible refine LeO.bind ?_ (fun _=>?_))
   |exact LeO.none _
   |refine LeO.ite ?_ ?_
   |refine LeO.bind ?_ (fun _=>?_)
def spec_MirrorWay.T9:Bool×List (List Nat×List Nat):=(true,[([],[]),([0],[0]),([1],[1]),([2],[2]),([],[]),([4],[4]),([3,5],[3,5]),([0,1,2,3,4,5,6],[]),([7,6,2,0,1,2,3,4,5,6],[6,7])])
def spec_MirrorWay.B9:List Nat:=[0,1,3,7,0,16,63,127,255]
theorem spec_MirrorWay.tab9:rtab .any (opsOf Tryz.f7 9)=spec_MirrorWay.T9:=by kernel_rfl
theorem spec_MirrorWay.bits9:waitsOk spec_MirrorWay.T9.2 spec_MirrorWay.B9=true:=by kernel_rfl
set_option maxHeartbeats 8000000 in
set_option maxRecDepth 100000 in
theorem spec_MirrorWay.calls (k:Nat) (aR:Int) (aQ:Int) (aU:Bool) (A1:Option Addr) (c1:Nat) (l1:List (S51)) (r1:List (S51)) (r2:Int) (w:World) (cN:Kd.C k51 w A1 l1.length l1) (cV:l1.length≤c1) (h:spec_MirrorWay.f k aR aQ aU l1=some (r1,r2)):
  Calls Tryz.prog 7 #[.agg #[.int .i64 aR,.int .i64 aQ,.bool aU],.slice A1 l1.length c1] w fun e w'=>∃v0_:Value,e= .returned (.tuple #[v0_,.int .i64 r2])∧Kd.R k51 51 w' w.heap.size (fun _=>True) v0_ r1∧Below w.heap.size w w':=by
 have dE:=Tryz.underlying25;have cZ:=Tryz.underlying51;have cM:=A' cN;have cU:=A' cV;clear cN cV;have HB:=A' (Below.refl w.heap.size w);have H:((spec_l07Code.f k aR aQ aU l1).bind fun aW=>(if aW.1=0 then(spec_MirrorWay.l0 k l1 (([]:List (S51))) 0 aW.2.1 aW.2.2.1 aW.2.2.2)else(some (([]:List (S51)),aW.1))))=some (r1,r2):=h;clear h;replace H:=Option.bind_eq_some_iff.mp H;obtain⟨⟨aV,bJ,bH,bF⟩,cO,H⟩:=H;replace H:(if aV=0 then(spec_MirrorWay.l0 k l1 (([]:List (S51))) 0 bJ bH bF)else(some (([]:List (S51)),aV)))=some (r1,r2):=H;have A3:=A' cO;clear cO
 by_cases c4:aV=0
 ·rw[if_pos c4]at H;have c4b0:(aV == 0)=true:=beq_iff_eq.mpr c4;have c4b1:(aV != 0)=false:=bne_eq_false_iff_eq.mpr c4;clear c4;obtain⟨bT,bB⟩: ∃y_:List (S51),y_=(([]:List (S51))):=⟨_,rfl⟩
  replace H:(spec_MirrorWay.l0 k l1 bT 0 bJ bH bF)=some (r1,r2):=by first|(rw[bB];with_reducible exact H)|(have H2_:=(Option.bind_some _ _).symm.trans H;rw[bB];with_reducible exact H2_)|(have H2_:=(Option.bind_some _ _).symm.trans H;with_reducible exact H2_)|with_reducible exact H|(rw[bB];exact H)|exact H
  have bO:=A' bB;clear bB;have H':=A' H;clear H;go_enter Tryz.func7,Tryz.ntmps7;go_wp2_with (first|((with_reducible refine gate_dst (N:=2) rfl ?_);refine box_event ?hg (N:=2) ?hd (cs:=#[.int .i64 aR,.int .i64 aQ,.bool aU]) (t:=25) ?hr ?_;(case hd=>rfl);(case hg=>rfl);(case hr=>first|(go_simp;done)|(go_simp;rfl));intro aG hg w5 hbox hb;have n0_:=A' (W' (qK0 HB.out) hb);have n1_:=A' (hbox);have n2_:=A' ((by rw[hg];exact(V' (qK0 HB.out)):w.heap.size≤aG));have n3_:=A' ((by rw[hg];exact(V' (qK0 HB.out)):w.heap.size≤aG));clear HB;have HB:=n0_;have bL:=n1_;have cA:=n2_;have bI:=n3_;clear n0_ n1_ n2_ n3_;clear hb hbox hg;have aA:=A' (show IsS25 w w5 aG aR aQ aU from⟨(qB bL.out),bI.out⟩))|((with_reducible refine gate_callee (f:=29) rfl ?_);refine goesL_ (some 11) rfl rfl Tryz.func29 (by kernel_rfl) rfl #[.pointer (some ⟨aG,0,none⟩),.slice A1 l1.length c1] rfl (by(try simp only[List.map_toArray,List.map_cons,List.map_nil]);first|done|rfl|(simp only[List.length_drop,List.length_take];rfl)) ?_;(with_reducible refine(spec_l07Code.calls k aG aR aQ aU _ _ l1 aV bJ bH bF w _ ?bA ?aZ ?bE ?bG A3.out).mono ?_);(case bA=>repeat(first|(with_reducible first|exact aA.out|apply IsS25.alloc|apply IsS25.drewN|apply IsS25.drew|apply IsS25.set_0|apply IsS25.set_1|apply IsS25.set_2)|exact aA.out));(case aZ=>repeat(first|(with_reducible first|exact HB.out|apply K'|apply F'|apply J'|refine E' ?_ (IsS25.ge aA.out))|exact HB.out));(case bE=>exact Kd.C_foot_came k51_heap cM.out (qZ5_2 HB.out (IsS25.ge aA.out)) (IsS25.ge aA.out));(case bG=>exact cU.out);rintro e w6 ⟨rfl,hi,hb,hk⟩;refine⟨_,rfl,?_⟩;replace HB:=A' (hb);replace aA:=A' (hi);(try clear hb);(try clear hb2);(try clear hk);(try clear hi))|((with_reducible refine gate_dst (N:=15) rfl ?_);refine Kd.R_lit k51 _ 51 ?hg (N:=15) ?hd (xs:=([]:List (S51))) (inner:=[]) (ok:=fun _=>True) (okp:=fun _=>True) ?hr ?hp (fun _ hk=>hk) trivial (Below.refl _ _) (Nat.le_refl _) (by simp) ?_;(case hd=>rfl);(case hg=>rfl);(case hr=>first|(go_simp;done)|(go_simp;rfl));(case hp=>exact(Reps.none _ _));intro cY w7 bV hb hg_ hnew_;clear hg_ hnew_;(first|rw[← bO.out]at bV|(simp only[Int.reduceToNat]at bV;rw[← bO.out]at bV));have n0_:=A' (Kd.R_lower bV (V' (qZ5_2 HB.out (IsS25.ge aA.out))));have n1_:=A' (IsS25.below (qZ5_1 aA.out) hb);have n2_:=A' (W' (qZ5_2 HB.out (IsS25.ge aA.out)) hb);clear aA;clear HB;have bY:=n0_;have aA:=n1_;have HB:=n2_;clear n0_ n1_ n2_;clear hb bV))
  go_loopg [7,8] k (fun kq v7 v8 w'=>∃(aN:List (S51)) (aC:Int) (aI:Int) (aJ:Int) (aH:Bool),v8= .int .i64 aC∧Aside0 (spec_MirrorWay.l0 kq l1 aN aC aI aJ aH=some (r1,r2))∧Aside0 (kq≤k)∧Aside0 (Kd.R k51 51 w' w.heap.size (fun _=>True) v7 aN)∧Aside0 (IsS25 w w' aG aI aJ aH)∧Aside0 (Below w.heap.size w w'))
  case atStart=>exact⟨(bT),(0),(bJ),(bH),(bF),qS,H',⟨Nat.le_refl _⟩,⟨qR bY.out⟩,⟨qZ5_1 aA.out⟩,⟨qZ5_2 HB.out (IsS25.ge aA.out)⟩⟩
  case round=>
   clear H';try clear c1
   try clear c2
   try clear p2
   try clear c4
   try clear c4b0
   try clear c4b1
   try clear c7
   obtain⟨aN,aC,aI,aJ,aH,rfl,HA,cW,HO_7,aA,HB⟩:=hrel
   cases gk with
   |zero=>exact absurd HA.out (by simp[spec_MirrorWay.l0])
   |succ k1=>
    have H:=HA.out;clear HA;simp only[spec_MirrorWay.l0]at H
    by_cases c9:aC<(l1.length:Int)
    ·rw[if_pos c9]at H;have c9b0:decide (aC<(l1.length:Int))=true:=dT' c9;clear c9
     by_cases c10:0≤aC
     ·rw[if_pos c10]at H;have c10b0:decide (0≤aC)=true:=dT' c10;clear c10;replace H:=Option.bind_eq_some_iff.mp H;obtain⟨⟨aT,bK,bN,bM⟩,bS,H⟩:=H;replace H:(if aN.length<8796093022208 then(spec_MirrorWay.l0 k1 l1 (aN ++ [(⟨(rd_T51 l1 aC).f0,wrap64 ((wrap64 (aT - 1)) - ((rd_T51 l1 aC).f1))⟩:S51)]) (wrap64 (aC+1)) bK bN bM)else(none))=some (r1,r2):=H;have dA:=A' bS;clear bS
      by_cases c12:aN.length<8796093022208
      ·rw[if_pos c12]at H;have bU:=A' c12;clear c12;obtain⟨bZ,aY⟩: ∃y_:List (S51),y_=(aN ++ [(⟨(rd_T51 l1 aC).f0,wrap64 ((wrap64 (aT - 1)) - ((rd_T51 l1 aC).f1))⟩:S51)]):=⟨_,rfl⟩
       replace H:(spec_MirrorWay.l0 k1 l1 bZ (wrap64 (aC+1)) bK bN bM)=some (r1,r2):=by first|(rw[aY];with_reducible exact H)|(have H2_:=(Option.bind_some _ _).symm.trans H;rw[aY];with_reducible exact H2_)|(have H2_:=(Option.bind_some _ _).symm.trans H;with_reducible exact H2_)|with_reducible exact H|(rw[aY];exact H)|exact H
       have bW:=A' aY;clear aY;have H':=A' H;clear H;have bR:0≤(aC:Int):=oD' qA;have bP:aC<(l1.length:Int):=oD' qA;obtain⟨cP,cL,bC,bD⟩:=at_T51 cM.out aC bR bP
       cases cL
       try replace bC:=qC HB.out bC
       try replace bD:=qC HB.out bD
       replace bR:=eq_true bR;replace bP:=eq_true bP;try go_wp2_with (first|((with_reducible refine gate_dst (N:=9) rfl ?_);refine box_event ?hg (N:=9) ?hd (cs:=#[.int .i64 0,.int .i64 0]) (t:=51) ?hr ?_;(case hd=>rfl);(case hg=>rfl);(case hr=>first|(go_simp;done)|(go_simp;rfl));intro aD hg bQ hbox hb;have n0_:=A' (L' (Kd.R_elderB (qR HO_7.out) aD (Nat.le_of_eq hg.symm)) hb);have n1_:=A' (IsS25.below (qZ5_1 aA.out) hb);have n2_:=A' (W' (qZ5_2 HB.out (IsS25.ge aA.out)) hb);have n3_:=A' (hbox);have n4_:=A' ((by rw[hg];exact(V' (qZ5_2 HB.out (IsS25.ge aA.out))):w.heap.size≤aD));have n5_:=A' ((by rw[hg];exact(V' (qZ5_2 HB.out (IsS25.ge aA.out))):w.heap.size≤aD));have n6_:=A' ((by rw[hg];exact Nat.ne_of_lt (IsS25.lt (show IsS25 w _ aG aI aJ aH from by repeat(first|(with_reducible first|exact aA.out|apply IsS25.alloc|apply IsS25.drewN|apply IsS25.drew|apply IsS25.set_0|apply IsS25.set_1|apply IsS25.set_2)|exact aA.out))):aG≠aD));have n7_:=A' ((by rw[hg];exact Nat.ne_of_gt (IsS25.lt (show IsS25 w _ aG aI aJ aH from by repeat(first|(with_reducible first|exact aA.out|apply IsS25.alloc|apply IsS25.drewN|apply IsS25.drew|apply IsS25.set_0|apply IsS25.set_1|apply IsS25.set_2)|exact aA.out))):aD≠aG));clear HO_7;clear aA;clear HB;have HO_7:=n0_;have aA:=n1_;have HB:=n2_;have aE:=n3_;have cS:=n4_;have aX:=n5_;have aK:=n6_;have aM:=n7_;clear n0_ n1_ n2_ n3_ n4_ n5_ n6_ n7_;clear hb hbox hg;have cT:=aM.out;have cR:=aK.out;have cI:bQ.cell? ⟨aD,0,none⟩=some (.int .i64 0):=(N' aE.out 0).trans rfl;have cE:bQ.cell? ⟨aD,1,none⟩=some (.int .i64 0):=(N' aE.out 1).trans rfl;have cG:=Y' aE.out 0;have cD:=Y' aE.out 1))
       have n0_:Aside0 (Kd.R k51 51 ((bQ.setCell ⟨aD,0,none⟩ (.int .i64 ((rd_T51 l1 aC).f0))).setCell ⟨aD,1,none⟩ (.int .i64 ((rd_T51 l1 aC).f1))) w.heap.size (fun k_=>k_≠aD) u7 aN):=⟨by(with_reducible repeat(first|apply B'|apply C'|apply D'));exact Q' (M' (p:=⟨aD,1,none⟩) (M' (p:=⟨aD,0,none⟩) (Q' HO_7.out (fun k_ hk=>(⟨hk,hk.2⟩:_∧k_≠aD))) (fun _ hk=>hk.2) (.int .i64 ((rd_T51 l1 aC).f0))) (fun _ hk=>hk.2) (.int .i64 ((rd_T51 l1 aC).f1))) (fun _ hk=>hk.1.2)⟩
       have n1_:Aside0 (((bQ.setCell ⟨aD,0,none⟩ (.int .i64 ((rd_T51 l1 aC).f0))).setCell ⟨aD,1,none⟩ (.int .i64 ((rd_T51 l1 aC).f1))).heap[aD]? =some (.cells #[.int .i64 ((rd_T51 l1 aC).f0),.int .i64 ((rd_T51 l1 aC).f1)] 51 (0,0))):=⟨by(with_reducible repeat(first|refine G' ?_ _|refine I' ?_|refine hA' ?_ _));refine blk_put (cs:=#[.int .i64 ((rd_T51 l1 aC).f0),.int .i64 0]) ?_ 1 _ rfl;(with_reducible repeat(first|refine G' ?_ _|refine I' ?_|refine hA' ?_ _));refine blk_put (cs:=#[.int .i64 0,.int .i64 0]) ?_ 0 _ rfl;(with_reducible repeat(first|refine G' ?_ _|refine I' ?_|refine hA' ?_ _));exact aE.out⟩
       have n2_:Aside0 (IsS25 w ((bQ.setCell ⟨aD,0,none⟩ (.int .i64 ((rd_T51 l1 aC).f0))).setCell ⟨aD,1,none⟩ (.int .i64 ((rd_T51 l1 aC).f1))) aG aI aJ aH):=⟨qZ5_3 aA.out aK.out⟩
       have n3_:Aside0 (Below w.heap.size w ((bQ.setCell ⟨aD,0,none⟩ (.int .i64 ((rd_T51 l1 aC).f0))).setCell ⟨aD,1,none⟩ (.int .i64 ((rd_T51 l1 aC).f1)))):=⟨qZ5_5 HB.out (IsS25.ge aA.out) aX.out⟩
       (try clear HO_7);(try clear aE);(try clear aA);(try clear HB)
       generalize ((bQ.setCell ⟨aD,0,none⟩ (.int .i64 ((rd_T51 l1 aC).f0))).setCell ⟨aD,1,none⟩ (.int .i64 ((rd_T51 l1 aC).f1)))=dC at n0_ n1_ n2_ n3_ ⊢
       have HO_7:=n0_;have aE:=n1_;have aA:=n2_;have HB:=n3_;clear n0_ n1_ n2_ n3_;replace HO_7:=A' (D' HO_7.out);replace aE:=A' (I' aE.out);replace aA:=A' (IsS25.drew aA.out);replace HB:=A' (J' HB.out);refine start_ (n:=9) (S:=fun w'=>w'.cell? ⟨aD,0,none⟩=some (.int .i64 ((rd_T51 l1 aC).f0))∧w'.cell? ⟨aD,1,none⟩=some (.int .i64 ((rd_T51 l1 aC).f1))) (ds:=[8]) #[n',n',n',n',n',n',n',n',n'] (by kernel_rfl) rfl rfl ⟨(N' aE.out 0).trans rfl,(N' aE.out 1).trans rfl⟩ (fun hHeld=>?_);refine with_tabW spec_MirrorWay.tab9 spec_MirrorWay.bits9 (fun HT_ HW_=>?_)
       generalize dC.drew=w17 at HO_7 aE aA HB hHeld ⊢
       refine pure_ (i:=0) (N:=some 26) (v:=?_) (a':=?_) #[y',n',n',n',n',n',n',n',n'] rfl rfl (any_of HT_.out (by kernel_rfl)) (fun _ _ _ h=>h) (Or.inl ⟨by rfl,?_⟩) ?_ ?_;rotate_left
       ·exact qI
       rotate_left
       ·exact qP
       refine pure_ (i:=4) (N:=some 30) (v:=?_) (a':=?_) #[y',n',n',n',y',n',n',n',n'] rfl rfl (any_of HT_.out (by kernel_rfl)) (fun _ _ _ h=>h) (Or.inl ⟨by rfl,?_⟩) ?_ ?_;rotate_left
       ·exact qI
       rotate_left
       ·exact qP
       refine take_ (i:=1) (N:=some 27) (v:=?_) (a':=?_) #[y',y',n',n',y',n',n',n',n'] rfl rfl (take_ofW HT_.out HW_.out (by kernel_rfl)) (fun _ _ _ h=>h) (Or.inl ⟨by rfl,?_⟩) hHeld ?_ ?_;rotate_left
       ·rintro w' ⟨s0,s1⟩;go_simp;with_reducible rfl
       rotate_left
       ·exact qP
       refine take_ (i:=5) (N:=some 31) (v:=?_) (a':=?_) #[y',y',n',n',y',y',n',n',n'] rfl rfl (take_ofW HT_.out HW_.out (by kernel_rfl)) (fun _ _ _ h=>h) (Or.inl ⟨by rfl,?_⟩) hHeld ?_ ?_;rotate_left
       ·rintro w' ⟨s0,s1⟩;go_simp;with_reducible rfl
       rotate_left
       ·exact qP
       refine one_ (i:=2) (N:=some 28) #[y',y',y',n',y',y',n',n',n'] rfl rfl (one_of HT_.out (by kernel_rfl)) (by decide) (fun K hK=>?_);refine goes_ Tryz.func30 (by kernel_rfl) rfl #[.pointer (some ⟨aG,0,none⟩),.int .i64 ((rd_T51 l1 aC).f0)] (by rfl) rfl rfl (by(try simp only[List.map_toArray,List.map_cons,List.map_nil]);first|done|rfl|(simp only[List.length_drop,List.length_take];rfl)) ?_
       with_reducible refine(spec_l07Many.calls aG aI aJ aH ((rd_T51 l1 aC).f0) aT bK bN bM w _ ?bA ?aZ dA.out).mono ?_
       (case bA=>repeat(first|(with_reducible first|exact aA.out|apply IsS25.alloc|apply IsS25.drewN|apply IsS25.drew|apply IsS25.set_0|apply IsS25.set_1|apply IsS25.set_2|refine IsS25.far ?_ aK.out _)|exact aA.out));(case aZ=>repeat(first|(with_reducible first|exact HB.out|apply K'|apply F'|apply J'|refine E' ?_ (IsS25.ge aA.out)|refine E' ?_ aX.out)|exact HB.out));rintro e cK ⟨rfl,hi,hb,hk⟩;refine⟨_,rfl,?_⟩;replace HO_7:=A' (Q' (Kd.R_keep (IsS25.apart (show IsS25 w _ aG aI aJ aH from by repeat(first|(with_reducible first|exact aA.out|apply IsS25.alloc|apply IsS25.drewN|apply IsS25.drew|apply IsS25.set_0|apply IsS25.set_1|apply IsS25.set_2|refine IsS25.far ?_ aK.out _)|exact aA.out)) (qR HO_7.out) (by decide)) hk (fun _ h=>h.2)) (fun _ h=>h.1));replace aE:=A' (KeepBut.blk hk (g':=aD) (o:=.cells #[.int .i64 ((rd_T51 l1 aC).f0),.int .i64 ((rd_T51 l1 aC).f1)] 51 (0,0)) (qB aE.out) aM.out (by simp));replace HB:=A' (hb);replace aA:=A' (hi);(try clear hb);(try clear hb2);(try clear hk);(try clear hi);refine hK.out _ _ ⟨(N' aE.out 0).trans rfl,(N' aE.out 1).trans rfl⟩ (fun hHeld=>?_);clear hK K;refine norm_ (a':=?_) ?_ ?_;rotate_left
       ·show Act.put _ (some 28) _=_
        exact qP
       refine pure_ (i:=3) (N:=some 29) (v:=?_) (a':=?_) #[y',y',y',y',y',y',n',n',n'] rfl rfl (any_of HT_.out (by kernel_rfl)) (fun _ _ _ h=>h) (Or.inl ⟨by rfl,?_⟩) ?_ ?_;rotate_left
       ·exact qI
       rotate_left
       ·exact qP
       refine pure_ (i:=6) (N:=some 32) (v:=?_) (a':=?_) #[y',y',y',y',y',y',y',n',n'] rfl rfl (any_of HT_.out (by kernel_rfl)) (fun _ _ _ h=>h) (Or.inl ⟨by rfl,?_⟩) ?_ ?_;rotate_left
       ·exact qI
       rotate_left
       ·exact qP
       refine pure_ (i:=7) (N:=some 33) (v:=?_) (a':=?_) #[y',y',y',y',y',y',y',y',n'] rfl rfl (any_of HT_.out (by kernel_rfl)) (fun _ _ _ h=>h) (Or.inl ⟨by rfl,?_⟩) ?_ ?_;rotate_left
       ·exact qI
       rotate_left
       ·exact qP
       refine last_ (i:=8) (N:=none) #[y',y',y',y',y',y',y',y',y'] rfl rfl (one_of HT_.out (by kernel_rfl)) (by decide) (fun K hK=>?_);have cX:cK.cell? ⟨aD,1,none⟩=some (.int .i64 ((rd_T51 l1 aC).f1)):=(N' aE.out 1).trans rfl;have cQ:=Y' aE.out 1;refine skip_ (w1:=?_) (by rfl) rfl ?_ ?_;rotate_left
       ·go_simp
        rfl
       refine hK.out _ _ ?_;clear hK K;refine done_ (done_of HT_.out (by kernel_rfl)) ?_;have cH:cK.cell? ⟨aD,0,none⟩=some (.int .i64 ((rd_T51 l1 aC).f0)):=(N' aE.out 0).trans rfl;have cC:cK.cell? ⟨aD,1,none⟩=some (.int .i64 ((rd_T51 l1 aC).f1)):=(N' aE.out 1).trans rfl;have cF:=Y' aE.out 0;have cJ:=Y' aE.out 1;try go_wp2_with (first|((with_reducible refine gate_builtin (b:=.append) (xs:=#[.tmp 34,.tmp 36]) rfl ?_);at_builtin;refine Kd.R_append k51 (w0:=w) w.heap.size rfl (.tmp 34) (.tmp 36) 26 51 (.agg #[(.int .i64 0),(.int .i64 0)]) 16 rfl Tryz.underlying26 info51 rfl (by decide) (by omega) u7 aN (⟨(rd_T51 l1 aC).f0,wrap64 ((wrap64 (aT - 1)) - ((rd_T51 l1 aC).f1))⟩:S51) [.int .i64 ((rd_T51 l1 aC).f0),.int .i64 (wrap64 ((wrap64 (aT - 1)) - ((rd_T51 l1 aC).f1)))] (fun k_=>k_≠aD) (fun _=>False) rfl (by first|(go_simp;done)|(go_simp;rfl)) ?aP (fun _ hk=>hk.elim) ?aF ?aO ?aB ?aS ?aL ?_;(case aP=>exact k51_mkM _ _ _ (⟨(rd_T51 l1 aC).f0,wrap64 ((wrap64 (aT - 1)) - ((rd_T51 l1 aC).f1))⟩:S51));(case aB=>exact(qZ5_5 HB.out (IsS25.ge aA.out) aX.out));(case aF=>exact(fun k_ hk=>Kd.freshB (g:=aD) (o:=.cells #[.int .i64 ((rd_T51 l1 aC).f0),.int .i64 (wrap64 ((wrap64 (aT - 1)) - ((rd_T51 l1 aC).f1)))] 51 (0,0)) (by(with_reducible repeat(first|refine G' ?_ _|refine I' ?_|refine hA' ?_ _));refine blk_put (cs:=#[.int .i64 ((rd_T51 l1 aC).f0),.int .i64 ((rd_T51 l1 aC).f1)]) ?_ 1 _ rfl;(with_reducible repeat(first|refine G' ?_ _|refine I' ?_|refine hA' ?_ _));exact aE.out) k_ hk));(case aO=>exact(by(with_reducible repeat(first|apply B'|apply C'|apply D'));exact Q' (M' (p:=⟨aD,1,none⟩) (Q' HO_7.out (fun k_ hk=>(⟨hk,hk⟩:_∧k_≠aD))) (fun _ hk=>hk.2) (.int .i64 (wrap64 ((wrap64 (aT - 1)) - ((rd_T51 l1 aC).f1))))) (fun _ hk=>hk.1)));(case aS=>exact(V' (qZ5_5 HB.out (IsS25.ge aA.out) aX.out)));(case aL=>have:=bU.out;omega);intro dB dG ho hb hg hat;rw[← bW.out]at ho;have n0_:=A' (IsS25.grown (show IsS25 w _ aG bK bN bM from by repeat(first|(with_reducible first|exact aA.out|apply IsS25.alloc|apply IsS25.drewN|apply IsS25.drew|apply IsS25.set_0|apply IsS25.set_1|apply IsS25.set_2|refine IsS25.far ?_ aK.out _)|exact aA.out)) hg (IsS25.own_ne aA.out HO_7.out (by decide)));have n1_:=A' (blk_grown (g:=aD) (o:=.cells #[.int .i64 ((rd_T51 l1 aC).f0),.int .i64 (wrap64 ((wrap64 (aT - 1)) - ((rd_T51 l1 aC).f1)))] 51 (0,0)) (by(with_reducible repeat(first|refine G' ?_ _|refine I' ?_|refine hA' ?_ _));refine blk_put (cs:=#[.int .i64 ((rd_T51 l1 aC).f0),.int .i64 ((rd_T51 l1 aC).f1)]) ?_ 1 _ rfl;(with_reducible repeat(first|refine G' ?_ _|refine I' ?_|refine hA' ?_ _));exact aE.out) hg (Kd.R_away HO_7.out (fun _ hk=>hk)));have n2_:=A' (hb);have n3_:=A' (ho);clear aA;clear aE;clear HB;clear HO_7;have aA:=n0_;have aE:=n1_;have HB:=n2_;have bX:=n3_;clear n0_ n1_ n2_ n3_;clear ho hb hg hat))
       go_roundg k1
       case measure=>have:=cW.out;omega
       case rel=>exact⟨(bZ),(wrap64 (aC+1)),(bK),(bN),(bM),qS,H',⟨by have:=cW.out;omega⟩,⟨by(with_reducible repeat(first|apply B'|apply C'|apply D'));exact Q' bX.out (fun _ hk=>trivial)⟩,⟨qZ5_3 aA.out aK.out⟩,⟨qZ5_5 HB.out (IsS25.ge aA.out) aX.out⟩⟩
      ·rw[if_neg c12]at H;exact absurd H (by simp)
     ·rw[if_neg c10]at H;exact absurd H (by simp)
    ·rw[if_neg c9]at H;have c9b0:decide (aC<(l1.length:Int))=false:=dF' c9;clear c9;simp only[Option.some.injEq,Prod.mk.injEq]at H;obtain⟨rfl,rfl⟩:=H;go_wp2;go_ret2;exact⟨_,qE,qR HO_7.out,qZ5_2 HB.out (IsS25.ge aA.out)⟩
 ·rw[if_neg c4]at H;have c4b0:(aV == 0)=false:=beq_eq_false_iff_ne.mpr c4;have c4b1:(aV != 0)=true:=bne_iff_ne.mpr c4;simp only[Option.some.injEq,Prod.mk.injEq]at H;obtain⟨rfl,rfl⟩:=H;go_enter Tryz.func7,Tryz.ntmps7;go_wp2_with (first|((with_reducible refine gate_dst (N:=2) rfl ?_);refine box_event ?hg (N:=2) ?hd (cs:=#[.int .i64 aR,.int .i64 aQ,.bool aU]) (t:=25) ?hr ?_;(case hd=>rfl);(case hg=>rfl);(case hr=>first|(go_simp;done)|(go_simp;rfl));intro aG hg dD hbox hb;have n0_:=A' (W' (qK0 HB.out) hb);have n1_:=A' (hbox);have n2_:=A' ((by rw[hg];exact(V' (qK0 HB.out)):w.heap.size≤aG));have n3_:=A' ((by rw[hg];exact(V' (qK0 HB.out)):w.heap.size≤aG));clear HB;have HB:=n0_;have bL:=n1_;have cA:=n2_;have bI:=n3_;clear n0_ n1_ n2_ n3_;clear hb hbox hg;have aA:=A' (show IsS25 w dD aG aR aQ aU from⟨(qB bL.out),bI.out⟩))|((with_reducible refine gate_callee (f:=29) rfl ?_);refine goesL_ (some 11) rfl rfl Tryz.func29 (by kernel_rfl) rfl #[.pointer (some ⟨aG,0,none⟩),.slice A1 l1.length c1] rfl (by(try simp only[List.map_toArray,List.map_cons,List.map_nil]);first|done|rfl|(simp only[List.length_drop,List.length_take];rfl)) ?_;(with_reducible refine(spec_l07Code.calls k aG aR aQ aU _ _ l1 aV bJ bH bF w _ ?bA ?aZ ?bE ?bG A3.out).mono ?_);(case bA=>repeat(first|(with_reducible first|exact aA.out|apply IsS25.alloc|apply IsS25.drewN|apply IsS25.drew|apply IsS25.set_0|apply IsS25.set_1|apply IsS25.set_2)|exact aA.out));(case aZ=>repeat(first|(with_reducible first|exact HB.out|apply K'|apply F'|apply J'|refine E' ?_ (IsS25.ge aA.out))|exact HB.out));(case bE=>exact Kd.C_foot_came k51_heap cM.out (qZ5_2 HB.out (IsS25.ge aA.out)) (IsS25.ge aA.out));(case bG=>exact cU.out);rintro e dF ⟨rfl,hi,hb,hk⟩;refine⟨_,rfl,?_⟩;replace HB:=A' (hb);replace aA:=A' (hi);(try clear hb);(try clear hb2);(try clear hk);(try clear hi)));go_ret2;exact⟨_,qE,by first|exact Kd.R_nil _ _ _ _ _|exact Kd.N_nil _ _ _ _ _|exact Kd.V_nil _ _ _ _ _|exact Kd.Q_nil _ _ _ _ _|exact Kd.S_nil _ _ _ _ _,qZ5_2 HB.out (IsS25.ge aA.out)⟩
/-! ### impl_WayFault: function 8 -/
def impl_WayFault.f (k:Nat) (aB:Int) (aC:Int) (aD:Bool) (l1:List (S51)):Option (ByteArray×Int×Int):=(impl_ValidPurchase.f k aB aC aD).bind fun aE=>(if aE=true then((impl_wayFault.f k aB aC aD l1).bind fun aA=>(some (aA.1,aA.2,0)))else(some ((⟨#[]⟩:ByteArray),0,1)))
theorem impl_WayFault.mono: ∀a0 a1 a2 a3 k,LeO (impl_WayFault.f k a0 a1 a2 a3) (impl_WayFault.f (k+1) a0 a1 a2 a3):=by
 intro a0 a1 a2 a3 k
 unfold impl_WayFault.f
 repeat' first
   |(with_reducible exact impl_ValidPurchase.mono _ _ _ _)
   |(with_reducible exact impl_wayFault.mono _ _ _ _ _)
   |(with_reducible exact LeO.refl _)
   |(with_reducible exact LeO.none _)
   |(with_reducible refine LeO.ite ?_ ?_)
   |(with_reducible refine LeO.bind ?_ (fun _=>?_))
   |exact LeO.none _
   |refine LeO.ite ?_ ?_
   |refine LeO.bind ?_ (fun _=>?_)
set_option maxHeartbeats 8000000 in
set_option maxRecDepth 100000 in
theorem impl_WayFault.calls (k:Nat) (aC:Int) (aD:Int) (aE:Bool) (A1:Option Addr) (c1:Nat) (l1:List (S51)) (r1:ByteArray) (r2:Int) (r3:Int) (w:World) (bG:Kd.C k51 w A1 l1.length l1) (bI:l1.length≤c1) (h:impl_WayFault.f k aC aD aE l1=some (r1,r2,r3)):
  Calls Tryz.prog 8 #[.agg #[.int .i64 aC,.int .i64 aD,.bool aE],.slice A1 l1.length c1] w fun e w'=>e= .returned (.tuple #[.string r1,.int .i64 r2,.int .i64 r3])∧Below w.heap.size w w':=by
 have bL:=Tryz.underlying25;have bM:=A' bG;have bK:=A' bI;clear bG bI;have HB:=A' (Below.refl w.heap.size w);have H:((impl_ValidPurchase.f k aC aD aE).bind fun aH=>(if aH=true then((impl_wayFault.f k aC aD aE l1).bind fun aF=>(some (aF.1,aF.2,0)))else(some ((⟨#[]⟩:ByteArray),0,1))))=some (r1,r2,r3):=h;clear h;replace H:=Option.bind_eq_some_iff.mp H;obtain⟨aH,bJ,H⟩:=H;replace H:(if aH=true then((impl_wayFault.f k aC aD aE l1).bind fun aF=>(some (aF.1,aF.2,0)))else(some ((⟨#[]⟩:ByteArray),0,1)))=some (r1,r2,r3):=H;have A3:=A' bJ;clear bJ
 by_cases c4:aH=true
 ·subst c4;have H1:((impl_wayFault.f k aC aD aE l1).bind fun aF=>(some (aF.1,aF.2,0)))=some (r1,r2,r3):=by rw[if_pos rfl]at H;exact H
  clear H;have H:=H1;clear H1;replace H:=Option.bind_eq_some_iff.mp H;obtain⟨⟨aL,aM⟩,bH,H⟩:=H;replace H:(some (aL,aM,0))=some (r1,r2,r3):=H;have A5:=A' bH;clear bH;simp only[Option.some.injEq,Prod.mk.injEq]at H;obtain⟨rfl,rfl,rfl⟩:=H;go_enter Tryz.func8,Tryz.ntmps8;go_wp2_with (first|((with_reducible refine gate_dst (N:=2) rfl ?_);refine box_event ?hg (N:=2) ?hd (cs:=#[.int .i64 aC,.int .i64 aD,.bool aE]) (t:=25) ?hr ?_;(case hd=>rfl);(case hg=>rfl);(case hr=>first|(go_simp;done)|(go_simp;rfl));intro aB hg w6 hbox hb;have n0_:=A' (W' (qK0 HB.out) hb);have n1_:=A' (hbox);have n2_:=A' ((by rw[hg];exact(V' (qK0 HB.out)):w.heap.size≤aB));have n3_:=A' ((by rw[hg];exact(V' (qK0 HB.out)):w.heap.size≤aB));clear HB;have HB:=n0_;have aA:=n1_;have aI:=n2_;have aG:=n3_;clear n0_ n1_ n2_ n3_;clear hb hbox hg;have aV:w6.cell? ⟨aB,0,none⟩=some (.int .i64 aC):=(N' aA.out 0).trans rfl;have bF:w6.cell? ⟨aB,1,none⟩=some (.int .i64 aD):=(N' aA.out 1).trans rfl;have bA:w6.cell? ⟨aB,2,none⟩=some (.bool aE):=(N' aA.out 2).trans rfl;have aU:=Y' aA.out 0;have aT:=Y' aA.out 1;have aW:=Y' aA.out 2)|((with_reducible refine gate_callee (f:=31) rfl ?_);refine goesL_ (some 10) rfl rfl Tryz.func31 (by kernel_rfl) rfl #[.agg #[.int .i64 aC,.int .i64 aD,.bool aE]] rfl (by(try simp only[List.map_toArray,List.map_cons,List.map_nil]);first|done|rfl|(simp only[List.length_drop,List.length_take];rfl)) ?_;(with_reducible refine(impl_ValidPurchase.calls k aC aD aE true _ A3.out).mono ?_);rintro e w8 ⟨rfl,hb⟩;refine⟨_,rfl,?_⟩;replace aA:=A' (O' (g:=aB) (qB aA.out) hb);replace HB:=A' (W' (qK1 HB.out aG.out) hb);(try clear hb);(try clear hb2);(try clear hk);(try clear hi);have bE:w8.cell? ⟨aB,0,none⟩=some (.int .i64 aC):=(N' aA.out 0).trans rfl;have aY:w8.cell? ⟨aB,1,none⟩=some (.int .i64 aD):=(N' aA.out 1).trans rfl;have bD:w8.cell? ⟨aB,2,none⟩=some (.bool aE):=(N' aA.out 2).trans rfl;have bC:=Y' aA.out 0;have bB:=Y' aA.out 1;have aZ:=Y' aA.out 2)|((with_reducible refine gate_callee (f:=32) rfl ?_);refine goesL_ (some 15) rfl rfl Tryz.func32 (by kernel_rfl) rfl #[.agg #[.int .i64 aC,.int .i64 aD,.bool aE],.slice A1 l1.length c1] rfl (by(try simp only[List.map_toArray,List.map_cons,List.map_nil]);first|done|rfl|(simp only[List.length_drop,List.length_take];rfl)) ?_;(with_reducible refine(impl_wayFault.calls k aC aD aE _ _ l1 aL aM _ ?aK ?aJ A5.out).mono ?_);(case aK=>exact qT (X' bM.out HB.out));(case aJ=>exact bK.out);rintro e bN ⟨rfl,hb⟩;refine⟨_,rfl,?_⟩;replace aA:=A' (O' (g:=aB) (qB aA.out) hb);replace HB:=A' (W' (qK1 HB.out aG.out) hb);(try clear hb);(try clear hb2);(try clear hk);(try clear hi)));go_ret3;exact⟨qE,qK1 HB.out aG.out⟩
 ·replace c4:=Bool.eq_false_iff.mpr c4;subst c4;have H1:(some ((⟨#[]⟩:ByteArray),0,1))=some (r1,r2,r3):=by rw[if_neg (show¬(false=true) by decide)]at H;exact H
  clear H;have H:=H1;clear H1;simp only[Option.some.injEq,Prod.mk.injEq]at H;obtain⟨rfl,rfl,rfl⟩:=H;go_enter Tryz.func8,Tryz.ntmps8;go_wp2_with (first|((with_reducible refine gate_dst (N:=2) rfl ?_);refine box_event ?hg (N:=2) ?hd (cs:=#[.int .i64 aC,.int .i64 aD,.bool aE]) (t:=25) ?hr ?_;(case hd=>rfl);(case hg=>rfl);(case hr=>first|(go_simp;done)|(go_simp;rfl));intro aB hg aX hbox hb;have n0_:=A' (W' (qK0 HB.out) hb);have n1_:=A' (hbox);have n2_:=A' ((by rw[hg];exact(V' (qK0 HB.out)):w.heap.size≤aB));have n3_:=A' ((by rw[hg];exact(V' (qK0 HB.out)):w.heap.size≤aB));clear HB;have HB:=n0_;have aA:=n1_;have aI:=n2_;have aG:=n3_;clear n0_ n1_ n2_ n3_;clear hb hbox hg;have aN:aX.cell? ⟨aB,0,none⟩=some (.int .i64 aC):=(N' aA.out 0).trans rfl;have aS:aX.cell? ⟨aB,1,none⟩=some (.int .i64 aD):=(N' aA.out 1).trans rfl;have aP:aX.cell? ⟨aB,2,none⟩=some (.bool aE):=(N' aA.out 2).trans rfl;have aO:=Y' aA.out 0;have aR:=Y' aA.out 1;have aQ:=Y' aA.out 2)|((with_reducible refine gate_callee (f:=31) rfl ?_);refine goesL_ (some 10) rfl rfl Tryz.func31 (by kernel_rfl) rfl #[.agg #[.int .i64 aC,.int .i64 aD,.bool aE]] rfl (by(try simp only[List.map_toArray,List.map_cons,List.map_nil]);first|done|rfl|(simp only[List.length_drop,List.length_take];rfl)) ?_;(with_reducible refine(impl_ValidPurchase.calls k aC aD aE false _ A3.out).mono ?_);rintro e bO ⟨rfl,hb⟩;refine⟨_,rfl,?_⟩;replace aA:=A' (O' (g:=aB) (qB aA.out) hb);replace HB:=A' (W' (qK1 HB.out aG.out) hb);(try clear hb);(try clear hb2);(try clear hk);(try clear hi)));go_ret3;exact⟨qE,qK1 HB.out aG.out⟩
/-! ### spec_WayFault: function 9 -/
def spec_WayFault.f (k:Nat) (aC:Int) (aE:Int) (aD:Bool) (l1:List (S51)):Option (ByteArray×Int×Int):=(spec_l05One.f k aC aE aD).bind fun aA=>(if aA.1=true then((spec_l07Fault.f k aA.2.1 aA.2.2.1 aA.2.2.2 l1).bind fun aB=>(some (aB.1,aB.2.1,0)))else(some ((⟨#[]⟩:ByteArray),0,1)))
theorem spec_WayFault.mono: ∀a0 a1 a2 a3 k,LeO (spec_WayFault.f k a0 a1 a2 a3) (spec_WayFault.f (k+1) a0 a1 a2 a3):=by
 intro a0 a1 a2 a3 k
 unfold spec_WayFault.f
 repeat' first
   |(with_reducible exact spec_l05One.mono _ _ _ _)
   |(with_reducible exact spec_l07Fault.mono _ _ _ _ _)
   |(with_reducible exact LeO.refl _)
   |(with_reducible exact LeO.none _)
   |(with_reducible refine LeO.ite ?_ ?_)
   |(with_reducible refine LeO.bind ?_ (fun _=>?_))
   |exact LeO.none _
   |refine LeO.ite ?_ ?_
   |refine LeO.bind ?_ (fun _=>?_)
set_option maxHeartbeats 8000000 in
set_option maxRecDepth 100000 in
theorem spec_WayFault.calls (k:Nat) (aD:Int) (aE:Int) (aF:Bool) (A1:Option Addr) (c1:Nat) (l1:List (S51)) (r1:ByteArray) (r2:Int) (r3:Int) (w:World) (aX:Kd.C k51 w A1 l1.length l1) (aZ:l1.length≤c1) (h:spec_WayFault.f k aD aE aF l1=some (r1,r2,r3)):
  Calls Tryz.prog 9 #[.agg #[.int .i64 aD,.int .i64 aE,.bool aF],.slice A1 l1.length c1] w fun e w'=>e= .returned (.tuple #[.string r1,.int .i64 r2,.int .i64 r3])∧Below w.heap.size w w':=by
 have bC:=Tryz.underlying25;have bD:=A' aX;have bB:=A' aZ;clear aX aZ;have HB:=A' (Below.refl w.heap.size w);have H:((spec_l05One.f k aD aE aF).bind fun aI=>(if aI.1=true then((spec_l07Fault.f k aI.2.1 aI.2.2.1 aI.2.2.2 l1).bind fun aC=>(some (aC.1,aC.2.1,0)))else(some ((⟨#[]⟩:ByteArray),0,1))))=some (r1,r2,r3):=h;clear h;replace H:=Option.bind_eq_some_iff.mp H;obtain⟨⟨aS,aN,aM,aL⟩,bA,H⟩:=H;replace H:(if aS=true then((spec_l07Fault.f k aN aM aL l1).bind fun aC=>(some (aC.1,aC.2.1,0)))else(some ((⟨#[]⟩:ByteArray),0,1)))=some (r1,r2,r3):=H;have A3:=A' bA;clear bA
 by_cases c4:aS=true
 ·subst c4;have H1:((spec_l07Fault.f k aN aM aL l1).bind fun aC=>(some (aC.1,aC.2.1,0)))=some (r1,r2,r3):=by rw[if_pos rfl]at H;exact H
  clear H;have H:=H1;clear H1;replace H:=Option.bind_eq_some_iff.mp H;obtain⟨⟨aR,aT,aU,aW,aV⟩,aY,H⟩:=H;replace H:(some (aR,aT,0))=some (r1,r2,r3):=H;have A5:=A' aY;clear aY;simp only[Option.some.injEq,Prod.mk.injEq]at H;obtain⟨rfl,rfl,rfl⟩:=H;go_enter Tryz.func9,Tryz.ntmps9;go_wp2_with (first|((with_reducible refine gate_dst (N:=2) rfl ?_);refine box_event ?hg (N:=2) ?hd (cs:=#[.int .i64 aD,.int .i64 aE,.bool aF]) (t:=25) ?hr ?_;(case hd=>rfl);(case hg=>rfl);(case hr=>first|(go_simp;done)|(go_simp;rfl));intro aB hg w6 hbox hb;have n0_:=A' (W' (qK0 HB.out) hb);have n1_:=A' (hbox);have n2_:=A' ((by rw[hg];exact(V' (qK0 HB.out)):w.heap.size≤aB));have n3_:=A' ((by rw[hg];exact(V' (qK0 HB.out)):w.heap.size≤aB));clear HB;have HB:=n0_;have aJ:=n1_;have aP:=n2_;have aK:=n3_;clear n0_ n1_ n2_ n3_;clear hb hbox hg;have aA:=A' (show IsS25 w w6 aB aD aE aF from⟨(qB aJ.out),aK.out⟩))|((with_reducible refine gate_callee (f:=33) rfl ?_);refine goesL_ (some 9) rfl rfl Tryz.func33 (by kernel_rfl) rfl #[.pointer (some ⟨aB,0,none⟩)] rfl (by(try simp only[List.map_toArray,List.map_cons,List.map_nil]);first|done|rfl|(simp only[List.length_drop,List.length_take];rfl)) ?_;(with_reducible refine(spec_l05One.calls k aB aD aE aF true aN aM aL w _ ?aH ?aG A3.out).mono ?_);(case aH=>repeat(first|(with_reducible first|exact aA.out|apply IsS25.alloc|apply IsS25.drewN|apply IsS25.drew|apply IsS25.set_0|apply IsS25.set_1|apply IsS25.set_2)|exact aA.out));(case aG=>repeat(first|(with_reducible first|exact HB.out|apply K'|apply F'|apply J'|refine E' ?_ (IsS25.ge aA.out))|exact HB.out));rintro e w7 ⟨rfl,hi,hb,hk⟩;refine⟨_,rfl,?_⟩;replace HB:=A' (hb);replace aA:=A' (hi);(try clear hb);(try clear hb2);(try clear hk);(try clear hi))|((with_reducible refine gate_callee (f:=34) rfl ?_);refine goesL_ (some 13) rfl rfl Tryz.func34 (by kernel_rfl) rfl #[.pointer (some ⟨aB,0,none⟩),.slice A1 l1.length c1] rfl (by(try simp only[List.map_toArray,List.map_cons,List.map_nil]);first|done|rfl|(simp only[List.length_drop,List.length_take];rfl)) ?_;(with_reducible refine(spec_l07Fault.calls k aB aN aM aL _ _ l1 aR aT aU aW aV w _ ?aH ?aG ?aO ?aQ A5.out).mono ?_);(case aH=>repeat(first|(with_reducible first|exact aA.out|apply IsS25.alloc|apply IsS25.drewN|apply IsS25.drew|apply IsS25.set_0|apply IsS25.set_1|apply IsS25.set_2)|exact aA.out));(case aG=>repeat(first|(with_reducible first|exact HB.out|apply K'|apply F'|apply J'|refine E' ?_ (IsS25.ge aA.out))|exact HB.out));(case aO=>exact Kd.C_foot_came k51_heap bD.out (qZ5_2 HB.out (IsS25.ge aA.out)) (IsS25.ge aA.out));(case aQ=>exact bB.out);rintro e w8 ⟨rfl,hi,hb,hk⟩;refine⟨_,rfl,?_⟩;replace HB:=A' (hb);replace aA:=A' (hi);(try clear hb);(try clear hb2);(try clear hk);(try clear hi)));go_ret3;exact⟨qE,qZ5_2 HB.out (IsS25.ge aA.out)⟩
 ·replace c4:=Bool.eq_false_iff.mpr c4;subst c4;have H1:(some ((⟨#[]⟩:ByteArray),0,1))=some (r1,r2,r3):=by rw[if_neg (show¬(false=true) by decide)]at H;exact H
  clear H;have H:=H1;clear H1;simp only[Option.some.injEq,Prod.mk.injEq]at H;obtain⟨rfl,rfl,rfl⟩:=H;go_enter Tryz.func9,Tryz.ntmps9;go_wp2_with (first|((with_reducible refine gate_dst (N:=2) rfl ?_);refine box_event ?hg (N:=2) ?hd (cs:=#[.int .i64 aD,.int .i64 aE,.bool aF]) (t:=25) ?hr ?_;(case hd=>rfl);(case hg=>rfl);(case hr=>first|(go_simp;done)|(go_simp;rfl));intro aB hg w9 hbox hb;have n0_:=A' (W' (qK0 HB.out) hb);have n1_:=A' (hbox);have n2_:=A' ((by rw[hg];exact(V' (qK0 HB.out)):w.heap.size≤aB));have n3_:=A' ((by rw[hg];exact(V' (qK0 HB.out)):w.heap.size≤aB));clear HB;have HB:=n0_;have aJ:=n1_;have aP:=n2_;have aK:=n3_;clear n0_ n1_ n2_ n3_;clear hb hbox hg;have aA:=A' (show IsS25 w w9 aB aD aE aF from⟨(qB aJ.out),aK.out⟩))|((with_reducible refine gate_callee (f:=33) rfl ?_);refine goesL_ (some 9) rfl rfl Tryz.func33 (by kernel_rfl) rfl #[.pointer (some ⟨aB,0,none⟩)] rfl (by(try simp only[List.map_toArray,List.map_cons,List.map_nil]);first|done|rfl|(simp only[List.length_drop,List.length_take];rfl)) ?_;(with_reducible refine(spec_l05One.calls k aB aD aE aF false aN aM aL w _ ?aH ?aG A3.out).mono ?_);(case aH=>repeat(first|(with_reducible first|exact aA.out|apply IsS25.alloc|apply IsS25.drewN|apply IsS25.drew|apply IsS25.set_0|apply IsS25.set_1|apply IsS25.set_2)|exact aA.out));(case aG=>repeat(first|(with_reducible first|exact HB.out|apply K'|apply F'|apply J'|refine E' ?_ (IsS25.ge aA.out))|exact HB.out));rintro e bE ⟨rfl,hi,hb,hk⟩;refine⟨_,rfl,?_⟩;replace HB:=A' (hb);replace aA:=A' (hi);(try clear hb);(try clear hb2);(try clear hk);(try clear hi)));go_ret3;exact⟨qE,qZ5_2 HB.out (IsS25.ge aA.out)⟩
/-! ### impl_IsWay: function 10 -/
def impl_IsWay.f (k:Nat) (aA:Int) (aB:Int) (aD:Bool) (l1:List (S51)):Option (Bool×Int):=(impl_ValidPurchase.f k aA aB aD).bind fun aE=>(if aE=true then((impl_wayFault.f k aA aB aD l1).bind fun aC=>(some ((aC.1.toList == ([110,111,110,101]:List UInt8)),0)))else(some (false,1)))
theorem impl_IsWay.mono: ∀a0 a1 a2 a3 k,LeO (impl_IsWay.f k a0 a1 a2 a3) (impl_IsWay.f (k+1) a0 a1 a2 a3):=by
 intro a0 a1 a2 a3 k
 unfold impl_IsWay.f
 repeat' first
   |(with_reducible exact impl_ValidPurchase.mono _ _ _ _)
   |(with_reducible exact impl_wayFault.mono _ _ _ _ _)
   |(with_reducible exact LeO.refl _)
   |(with_reducible exact LeO.none _)
   |(with_reducible refine LeO.ite ?_ ?_)
   |(with_reducible refine LeO.bind ?_ (fun _=>?_))
   |exact LeO.none _
   |refine LeO.ite ?_ ?_
   |refine LeO.bind ?_ (fun _=>?_)
set_option maxHeartbeats 8000000 in
set_option maxRecDepth 100000 in
theorem impl_IsWay.calls (k:Nat) (aC:Int) (aD:Int) (aE:Bool) (A1:Option Addr) (c1:Nat) (l1:List (S51)) (r1:Bool) (r2:Int) (w:World) (bG:Kd.C k51 w A1 l1.length l1) (bI:l1.length≤c1) (h:impl_IsWay.f k aC aD aE l1=some (r1,r2)):
  Calls Tryz.prog 10 #[.agg #[.int .i64 aC,.int .i64 aD,.bool aE],.slice A1 l1.length c1] w fun e w'=>e= .returned (.tuple #[.bool r1,.int .i64 r2])∧Below w.heap.size w w':=by
 have bL:=Tryz.underlying25;have bM:=A' bG;have bK:=A' bI;clear bG bI;have HB:=A' (Below.refl w.heap.size w);have H:((impl_ValidPurchase.f k aC aD aE).bind fun aH=>(if aH=true then((impl_wayFault.f k aC aD aE l1).bind fun aG=>(some ((aG.1.toList == ([110,111,110,101]:List UInt8)),0)))else(some (false,1))))=some (r1,r2):=h;clear h;replace H:=Option.bind_eq_some_iff.mp H;obtain⟨aH,bJ,H⟩:=H;replace H:(if aH=true then((impl_wayFault.f k aC aD aE l1).bind fun aG=>(some ((aG.1.toList == ([110,111,110,101]:List UInt8)),0)))else(some (false,1)))=some (r1,r2):=H;have A3:=A' bJ;clear bJ
 by_cases c4:aH=true
 ·subst c4;have H1:((impl_wayFault.f k aC aD aE l1).bind fun aG=>(some ((aG.1.toList == ([110,111,110,101]:List UInt8)),0)))=some (r1,r2):=by rw[if_pos rfl]at H;exact H
  clear H;have H:=H1;clear H1;replace H:=Option.bind_eq_some_iff.mp H;obtain⟨⟨aI,aS⟩,bH,H⟩:=H;replace H:(some ((aI.toList == ([110,111,110,101]:List UInt8)),0))=some (r1,r2):=H;have A5:=A' bH;clear bH;simp only[Option.some.injEq,Prod.mk.injEq]at H;obtain⟨rfl,rfl⟩:=H;go_enter Tryz.func10,Tryz.ntmps10;go_wp2_with (first|((with_reducible refine gate_dst (N:=2) rfl ?_);refine box_event ?hg (N:=2) ?hd (cs:=#[.int .i64 aC,.int .i64 aD,.bool aE]) (t:=25) ?hr ?_;(case hd=>rfl);(case hg=>rfl);(case hr=>first|(go_simp;done)|(go_simp;rfl));intro aB hg w6 hbox hb;have n0_:=A' (W' (qK0 HB.out) hb);have n1_:=A' (hbox);have n2_:=A' ((by rw[hg];exact(V' (qK0 HB.out)):w.heap.size≤aB));have n3_:=A' ((by rw[hg];exact(V' (qK0 HB.out)):w.heap.size≤aB));clear HB;have HB:=n0_;have aA:=n1_;have aL:=n2_;have aF:=n3_;clear n0_ n1_ n2_ n3_;clear hb hbox hg;have aV:w6.cell? ⟨aB,0,none⟩=some (.int .i64 aC):=(N' aA.out 0).trans rfl;have bF:w6.cell? ⟨aB,1,none⟩=some (.int .i64 aD):=(N' aA.out 1).trans rfl;have bA:w6.cell? ⟨aB,2,none⟩=some (.bool aE):=(N' aA.out 2).trans rfl;have aU:=Y' aA.out 0;have aT:=Y' aA.out 1;have aW:=Y' aA.out 2)|((with_reducible refine gate_callee (f:=31) rfl ?_);refine goesL_ (some 9) rfl rfl Tryz.func31 (by kernel_rfl) rfl #[.agg #[.int .i64 aC,.int .i64 aD,.bool aE]] rfl (by(try simp only[List.map_toArray,List.map_cons,List.map_nil]);first|done|rfl|(simp only[List.length_drop,List.length_take];rfl)) ?_;(with_reducible refine(impl_ValidPurchase.calls k aC aD aE true _ A3.out).mono ?_);rintro e w8 ⟨rfl,hb⟩;refine⟨_,rfl,?_⟩;replace aA:=A' (O' (g:=aB) (qB aA.out) hb);replace HB:=A' (W' (qK1 HB.out aF.out) hb);(try clear hb);(try clear hb2);(try clear hk);(try clear hi);have bE:w8.cell? ⟨aB,0,none⟩=some (.int .i64 aC):=(N' aA.out 0).trans rfl;have aY:w8.cell? ⟨aB,1,none⟩=some (.int .i64 aD):=(N' aA.out 1).trans rfl;have bD:w8.cell? ⟨aB,2,none⟩=some (.bool aE):=(N' aA.out 2).trans rfl;have bC:=Y' aA.out 0;have bB:=Y' aA.out 1;have aZ:=Y' aA.out 2)|((with_reducible refine gate_callee (f:=32) rfl ?_);refine goesL_ (some 14) rfl rfl Tryz.func32 (by kernel_rfl) rfl #[.agg #[.int .i64 aC,.int .i64 aD,.bool aE],.slice A1 l1.length c1] rfl (by(try simp only[List.map_toArray,List.map_cons,List.map_nil]);first|done|rfl|(simp only[List.length_drop,List.length_take];rfl)) ?_;(with_reducible refine(impl_wayFault.calls k aC aD aE _ _ l1 aI aS _ ?aK ?aJ A5.out).mono ?_);(case aK=>exact qT (X' bM.out HB.out));(case aJ=>exact bK.out);rintro e bN ⟨rfl,hb⟩;refine⟨_,rfl,?_⟩;replace aA:=A' (O' (g:=aB) (qB aA.out) hb);replace HB:=A' (W' (qK1 HB.out aF.out) hb);(try clear hb);(try clear hb2);(try clear hk);(try clear hi)));go_ret2;exact⟨qE,qK1 HB.out aF.out⟩
 ·replace c4:=Bool.eq_false_iff.mpr c4;subst c4;have H1:(some (false,1))=some (r1,r2):=by rw[if_neg (show¬(false=true) by decide)]at H;exact H
  clear H;have H:=H1;clear H1;simp only[Option.some.injEq,Prod.mk.injEq]at H;obtain⟨rfl,rfl⟩:=H;go_enter Tryz.func10,Tryz.ntmps10;go_wp2_with (first|((with_reducible refine gate_dst (N:=2) rfl ?_);refine box_event ?hg (N:=2) ?hd (cs:=#[.int .i64 aC,.int .i64 aD,.bool aE]) (t:=25) ?hr ?_;(case hd=>rfl);(case hg=>rfl);(case hr=>first|(go_simp;done)|(go_simp;rfl));intro aB hg aX hbox hb;have n0_:=A' (W' (qK0 HB.out) hb);have n1_:=A' (hbox);have n2_:=A' ((by rw[hg];exact(V' (qK0 HB.out)):w.heap.size≤aB));have n3_:=A' ((by rw[hg];exact(V' (qK0 HB.out)):w.heap.size≤aB));clear HB;have HB:=n0_;have aA:=n1_;have aL:=n2_;have aF:=n3_;clear n0_ n1_ n2_ n3_;clear hb hbox hg;have aM:aX.cell? ⟨aB,0,none⟩=some (.int .i64 aC):=(N' aA.out 0).trans rfl;have aR:aX.cell? ⟨aB,1,none⟩=some (.int .i64 aD):=(N' aA.out 1).trans rfl;have aO:aX.cell? ⟨aB,2,none⟩=some (.bool aE):=(N' aA.out 2).trans rfl;have aN:=Y' aA.out 0;have aQ:=Y' aA.out 1;have aP:=Y' aA.out 2)|((with_reducible refine gate_callee (f:=31) rfl ?_);refine goesL_ (some 9) rfl rfl Tryz.func31 (by kernel_rfl) rfl #[.agg #[.int .i64 aC,.int .i64 aD,.bool aE]] rfl (by(try simp only[List.map_toArray,List.map_cons,List.map_nil]);first|done|rfl|(simp only[List.length_drop,List.length_take];rfl)) ?_;(with_reducible refine(impl_ValidPurchase.calls k aC aD aE false _ A3.out).mono ?_);rintro e bO ⟨rfl,hb⟩;refine⟨_,rfl,?_⟩;replace aA:=A' (O' (g:=aB) (qB aA.out) hb);replace HB:=A' (W' (qK1 HB.out aF.out) hb);(try clear hb);(try clear hb2);(try clear hk);(try clear hi)));go_ret2;exact⟨qE,qK1 HB.out aF.out⟩
/-! ### spec_IsWay: function 11 -/
def spec_IsWay.f (k:Nat) (aC:Int) (aD:Int) (aE:Bool) (l1:List (S51)):Option (Bool×Int):=(spec_l05One.f k aC aD aE).bind fun aA=>(if aA.1=true then((spec_l07Fault.f k aA.2.1 aA.2.2.1 aA.2.2.2 l1).bind fun aB=>(some ((aB.1.toList == ([110,111,110,101]:List UInt8)),0)))else(some (false,1)))
theorem spec_IsWay.mono: ∀a0 a1 a2 a3 k,LeO (spec_IsWay.f k a0 a1 a2 a3) (spec_IsWay.f (k+1) a0 a1 a2 a3):=by
 intro a0 a1 a2 a3 k
 unfold spec_IsWay.f
 repeat' first
   |(with_reducible exact spec_l05One.mono _ _ _ _)
   |(with_reducible exact spec_l07Fault.mono _ _ _ _ _)
   |(with_reducible exact LeO.refl _)
   |(with_reducible exact LeO.none _)
   |(with_reducible refine LeO.ite ?_ ?_)
   |(with_reducible refine LeO.bind ?_ (fun _=>?_))
   |exact LeO.none _
   |refine LeO.ite ?_ ?_
   |refine LeO.bind ?_ (fun _=>?_)
set_option maxHeartbeats 8000000 in
set_option maxRecDepth 100000 in
theorem spec_IsWay.calls (k:Nat) (aC:Int) (aD:Int) (aE:Bool) (A1:Option Addr) (c1:Nat) (l1:List (S51)) (r1:Bool) (r2:Int) (w:World) (aX:Kd.C k51 w A1 l1.length l1) (aZ:l1.length≤c1) (h:spec_IsWay.f k aC aD aE l1=some (r1,r2)):
  Calls Tryz.prog 11 #[.agg #[.int .i64 aC,.int .i64 aD,.bool aE],.slice A1 l1.length c1] w fun e w'=>e= .returned (.tuple #[.bool r1,.int .i64 r2])∧Below w.heap.size w w':=by
 have bC:=Tryz.underlying25;have bD:=A' aX;have bB:=A' aZ;clear aX aZ;have HB:=A' (Below.refl w.heap.size w);have H:((spec_l05One.f k aC aD aE).bind fun aI=>(if aI.1=true then((spec_l07Fault.f k aI.2.1 aI.2.2.1 aI.2.2.2 l1).bind fun aH=>(some ((aH.1.toList == ([110,111,110,101]:List UInt8)),0)))else(some (false,1))))=some (r1,r2):=h;clear h;replace H:=Option.bind_eq_some_iff.mp H;obtain⟨⟨aS,aJ,aL,aK⟩,bA,H⟩:=H;replace H:(if aS=true then((spec_l07Fault.f k aJ aL aK l1).bind fun aH=>(some ((aH.1.toList == ([110,111,110,101]:List UInt8)),0)))else(some (false,1)))=some (r1,r2):=H;have A3:=A' bA;clear bA
 by_cases c4:aS=true
 ·subst c4;have H1:((spec_l07Fault.f k aJ aL aK l1).bind fun aH=>(some ((aH.1.toList == ([110,111,110,101]:List UInt8)),0)))=some (r1,r2):=by rw[if_pos rfl]at H;exact H
  clear H;have H:=H1;clear H1;replace H:=Option.bind_eq_some_iff.mp H;obtain⟨⟨aQ,aT,aU,aV,aW⟩,aY,H⟩:=H;replace H:(some ((aQ.toList == ([110,111,110,101]:List UInt8)),0))=some (r1,r2):=H;have A5:=A' aY;clear aY;simp only[Option.some.injEq,Prod.mk.injEq]at H;obtain⟨rfl,rfl⟩:=H;go_enter Tryz.func11,Tryz.ntmps11;go_wp2_with (first|((with_reducible refine gate_dst (N:=2) rfl ?_);refine box_event ?hg (N:=2) ?hd (cs:=#[.int .i64 aC,.int .i64 aD,.bool aE]) (t:=25) ?hr ?_;(case hd=>rfl);(case hg=>rfl);(case hr=>first|(go_simp;done)|(go_simp;rfl));intro aB hg w6 hbox hb;have n0_:=A' (W' (qK0 HB.out) hb);have n1_:=A' (hbox);have n2_:=A' ((by rw[hg];exact(V' (qK0 HB.out)):w.heap.size≤aB));have n3_:=A' ((by rw[hg];exact(V' (qK0 HB.out)):w.heap.size≤aB));clear HB;have HB:=n0_;have aN:=n1_;have aR:=n2_;have aM:=n3_;clear n0_ n1_ n2_ n3_;clear hb hbox hg;have aA:=A' (show IsS25 w w6 aB aC aD aE from⟨(qB aN.out),aM.out⟩))|((with_reducible refine gate_callee (f:=33) rfl ?_);refine goesL_ (some 8) rfl rfl Tryz.func33 (by kernel_rfl) rfl #[.pointer (some ⟨aB,0,none⟩)] rfl (by(try simp only[List.map_toArray,List.map_cons,List.map_nil]);first|done|rfl|(simp only[List.length_drop,List.length_take];rfl)) ?_;(with_reducible refine(spec_l05One.calls k aB aC aD aE true aJ aL aK w _ ?aG ?aF A3.out).mono ?_);(case aG=>repeat(first|(with_reducible first|exact aA.out|apply IsS25.alloc|apply IsS25.drewN|apply IsS25.drew|apply IsS25.set_0|apply IsS25.set_1|apply IsS25.set_2)|exact aA.out));(case aF=>repeat(first|(with_reducible first|exact HB.out|apply K'|apply F'|apply J'|refine E' ?_ (IsS25.ge aA.out))|exact HB.out));rintro e w7 ⟨rfl,hi,hb,hk⟩;refine⟨_,rfl,?_⟩;replace HB:=A' (hb);replace aA:=A' (hi);(try clear hb);(try clear hb2);(try clear hk);(try clear hi))|((with_reducible refine gate_callee (f:=34) rfl ?_);refine goesL_ (some 12) rfl rfl Tryz.func34 (by kernel_rfl) rfl #[.pointer (some ⟨aB,0,none⟩),.slice A1 l1.length c1] rfl (by(try simp only[List.map_toArray,List.map_cons,List.map_nil]);first|done|rfl|(simp only[List.length_drop,List.length_take];rfl)) ?_;(with_reducible refine(spec_l07Fault.calls k aB aJ aL aK _ _ l1 aQ aT aU aV aW w _ ?aG ?aF ?aO ?aP A5.out).mono ?_);(case aG=>repeat(first|(with_reducible first|exact aA.out|apply IsS25.alloc|apply IsS25.drewN|apply IsS25.drew|apply IsS25.set_0|apply IsS25.set_1|apply IsS25.set_2)|exact aA.out));(case aF=>repeat(first|(with_reducible first|exact HB.out|apply K'|apply F'|apply J'|refine E' ?_ (IsS25.ge aA.out))|exact HB.out));(case aO=>exact Kd.C_foot_came k51_heap bD.out (qZ5_2 HB.out (IsS25.ge aA.out)) (IsS25.ge aA.out));(case aP=>exact bB.out);rintro e w8 ⟨rfl,hi,hb,hk⟩;refine⟨_,rfl,?_⟩;replace HB:=A' (hb);replace aA:=A' (hi);(try clear hb);(try clear hb2);(try clear hk);(try clear hi)));go_ret2;exact⟨qE,qZ5_2 HB.out (IsS25.ge aA.out)⟩
 ·replace c4:=Bool.eq_false_iff.mpr c4;subst c4;have H1:(some (false,1))=some (r1,r2):=by rw[if_neg (show¬(false=true) by decide)]at H;exact H
  clear H;have H:=H1;clear H1;simp only[Option.some.injEq,Prod.mk.injEq]at H;obtain⟨rfl,rfl⟩:=H;go_enter Tryz.func11,Tryz.ntmps11;go_wp2_with (first|((with_reducible refine gate_dst (N:=2) rfl ?_);refine box_event ?hg (N:=2) ?hd (cs:=#[.int .i64 aC,.int .i64 aD,.bool aE]) (t:=25) ?hr ?_;(case hd=>rfl);(case hg=>rfl);(case hr=>first|(go_simp;done)|(go_simp;rfl));intro aB hg w9 hbox hb;have n0_:=A' (W' (qK0 HB.out) hb);have n1_:=A' (hbox);have n2_:=A' ((by rw[hg];exact(V' (qK0 HB.out)):w.heap.size≤aB));have n3_:=A' ((by rw[hg];exact(V' (qK0 HB.out)):w.heap.size≤aB));clear HB;have HB:=n0_;have aN:=n1_;have aR:=n2_;have aM:=n3_;clear n0_ n1_ n2_ n3_;clear hb hbox hg;have aA:=A' (show IsS25 w w9 aB aC aD aE from⟨(qB aN.out),aM.out⟩))|((with_reducible refine gate_callee (f:=33) rfl ?_);refine goesL_ (some 8) rfl rfl Tryz.func33 (by kernel_rfl) rfl #[.pointer (some ⟨aB,0,none⟩)] rfl (by(try simp only[List.map_toArray,List.map_cons,List.map_nil]);first|done|rfl|(simp only[List.length_drop,List.length_take];rfl)) ?_;(with_reducible refine(spec_l05One.calls k aB aC aD aE false aJ aL aK w _ ?aG ?aF A3.out).mono ?_);(case aG=>repeat(first|(with_reducible first|exact aA.out|apply IsS25.alloc|apply IsS25.drewN|apply IsS25.drew|apply IsS25.set_0|apply IsS25.set_1|apply IsS25.set_2)|exact aA.out));(case aF=>repeat(first|(with_reducible first|exact HB.out|apply K'|apply F'|apply J'|refine E' ?_ (IsS25.ge aA.out))|exact HB.out));rintro e bE ⟨rfl,hi,hb,hk⟩;refine⟨_,rfl,?_⟩;replace HB:=A' (hb);replace aA:=A' (hi);(try clear hb);(try clear hb2);(try clear hk);(try clear hi)));go_ret2;exact⟨qE,qZ5_2 HB.out (IsS25.ge aA.out)⟩
/-! ### impl_PlainWay: function 12 -/
def impl_PlainWay.l0:Nat→List (S51)→Int→Int→Int→Bool→Int→Int→Option ((List (S51))×Int)
 |0,_,_,_,_,_,_,_=>none
 |k+1,x5,x6,aA,aB,aC,aD,aE=>if x6<(wrap64 (aA+aB))then((impl_blockAt.f aA aB aC x6).bind fun aF=>(if 0≤aF then(if aF<2 then(if aF=0 then(if x5.length<8796093022208 then(impl_PlainWay.l0 k (x5 ++ [(⟨aF,aD⟩:S51)]) (wrap64 (x6+1)) aA aB aC (wrap64 (aD+1)) aE)else(none))else(if x5.length<8796093022208 then(impl_PlainWay.l0 k (x5 ++ [(⟨aF,aE⟩:S51)]) (wrap64 (x6+1)) aA aB aC aD (wrap64 (aE+1)))else(none)))else(none))else(none)))else(some (x5,0))
def impl_PlainWay.f (k:Nat) (aA:Int) (aB:Int) (aC:Bool):Option ((List (S51))×Int):=(impl_ValidPurchase.f k aA aB aC).bind fun aD=>(if aD=true then(impl_PlainWay.l0 k (([]:List (S51))) 0 aA aB aC 0 0)else(some (([]:List (S51)),1)))
theorem impl_PlainWay.mono_l: ∀k,(∀y0 y1 y2 y3 y4 y5 y6,LeO (impl_PlainWay.l0 k y0 y1 y2 y3 y4 y5 y6) (impl_PlainWay.l0 (k+1) y0 y1 y2 y3 y4 y5 y6))
 |0=>fun _ _ _ _ _ _ _ r h=>by simp[impl_PlainWay.l0]at h
 |k+1=>by
  have aA:=impl_PlainWay.mono_l k
  ·intro y0 y1 y2 y3 y4 y5 y6
   unfold impl_PlainWay.l0
   repeat' first
   |(with_reducible exact aA _ _ _ _ _ _ _)
   |(with_reducible exact impl_ValidPurchase.mono _ _ _ _)
   |(with_reducible exact LeO.refl _)
   |(with_reducible exact LeO.none _)
   |(with_reducible refine LeO.ite ?_ ?_)
   |(with_reducible refine LeO.bind ?_ (fun _=>?_))
   |exact LeO.none _
   |refine LeO.ite ?_ ?_
   |refine LeO.bind ?_ (fun _=>?_)
theorem impl_PlainWay.mono: ∀a0 a1 a2 k,LeO (impl_PlainWay.f k a0 a1 a2) (impl_PlainWay.f (k+1) a0 a1 a2):=by
 intro a0 a1 a2 k
 have aA:=impl_PlainWay.mono_l k
 unfold impl_PlainWay.f
 repeat' first
   |(with_reducible exact aA _ _ _ _ _ _ _)
   |(with_reducible exact impl_ValidPurchase.mono _ _ _ _)
   |(with_reducible exact LeO.refl _)
   |(with_reducible exact LeO.none _)
   |(with_reducible refine LeO.ite ?_ ?_)
   |(with_reducible refine LeO.bind ?_ (fun _=>?_))
   |exact LeO.none _
   |refine LeO.ite ?_ ?_
   |refine LeO.bind ?_ (fun _=>?_)
set_option maxHeartbeats 8000000 in
set_option maxRecDepth 100000 in
theorem impl_PlainWay.calls (k:Nat) (aJ:Int) (aH:Int) (aM:Bool) (r1:List (S51)) (r2:Int) (w:World) (h:impl_PlainWay.f k aJ aH aM=some (r1,r2)):
  Calls Tryz.prog 12 #[.agg #[.int .i64 aJ,.int .i64 aH,.bool aM]] w fun e w'=>∃v0_:Value,e= .returned (.tuple #[v0_,.int .i64 r2])∧Kd.R k51 51 w' w.heap.size (fun _=>True) v0_ r1∧Below w.heap.size w w':=by
 have eJ:=Tryz.underlying25;have eC:=Tryz.underlying61;have eE:=Tryz.underlying51;have HB:=A' (Below.refl w.heap.size w);have H:((impl_ValidPurchase.f k aJ aH aM).bind fun bA=>(if bA=true then(impl_PlainWay.l0 k (([]:List (S51))) 0 aJ aH aM 0 0)else(some (([]:List (S51)),1))))=some (r1,r2):=h;clear h;replace H:=Option.bind_eq_some_iff.mp H;obtain⟨bA,dV,H⟩:=H;replace H:(if bA=true then(impl_PlainWay.l0 k (([]:List (S51))) 0 aJ aH aM 0 0)else(some (([]:List (S51)),1)))=some (r1,r2):=H;have A2:=A' dV;clear dV
 by_cases c3:bA=true
 ·subst c3;have H1:(impl_PlainWay.l0 k (([]:List (S51))) 0 aJ aH aM 0 0)=some (r1,r2):=by rw[if_pos rfl]at H;exact H
  clear H;have H:=H1;clear H1;obtain⟨bN,aX⟩: ∃y_:List (S51),y_=(([]:List (S51))):=⟨_,rfl⟩
  replace H:(impl_PlainWay.l0 k bN 0 aJ aH aM 0 0)=some (r1,r2):=by first|(rw[aX];with_reducible exact H)|(have H2_:=(Option.bind_some _ _).symm.trans H;rw[aX];with_reducible exact H2_)|(have H2_:=(Option.bind_some _ _).symm.trans H;with_reducible exact H2_)|with_reducible exact H|(rw[aX];exact H)|exact H
  have bB:=A' aX;clear aX;have H':=A' H;clear H;go_enter Tryz.func12,Tryz.ntmps12;go_wp2_with (first|((with_reducible refine gate_dst (N:=1) rfl ?_);refine box_event ?hg (N:=1) ?hd (cs:=#[.int .i64 aJ,.int .i64 aH,.bool aM]) (t:=25) ?hr ?_;(case hd=>rfl);(case hg=>rfl);(case hr=>first|(go_simp;done)|(go_simp;rfl));intro aG hg w4 hbox hb;have n0_:=A' (W' (qK0 HB.out) hb);have n1_:=A' (hbox);have n2_:=A' ((by rw[hg];exact(V' (qK0 HB.out)):w.heap.size≤aG));have n3_:=A' ((by rw[hg];exact(V' (qK0 HB.out)):w.heap.size≤aG));clear HB;have HB:=n0_;have aA:=n1_;have bR:=n2_;have aQ:=n3_;clear n0_ n1_ n2_ n3_;clear hb hbox hg;have bD:w4.cell? ⟨aG,0,none⟩=some (.int .i64 aJ):=(N' aA.out 0).trans rfl;have bL:w4.cell? ⟨aG,1,none⟩=some (.int .i64 aH):=(N' aA.out 1).trans rfl;have bH:w4.cell? ⟨aG,2,none⟩=some (.bool aM):=(N' aA.out 2).trans rfl;have bG:=Y' aA.out 0;have bK:=Y' aA.out 1;have bC:=Y' aA.out 2)|((with_reducible refine gate_callee (f:=31) rfl ?_);refine goesL_ (some 9) rfl rfl Tryz.func31 (by kernel_rfl) rfl #[.agg #[.int .i64 aJ,.int .i64 aH,.bool aM]] rfl (by(try simp only[List.map_toArray,List.map_cons,List.map_nil]);first|done|rfl|(simp only[List.length_drop,List.length_take];rfl)) ?_;(with_reducible refine(impl_ValidPurchase.calls k aJ aH aM true _ A2.out).mono ?_);rintro e w6 ⟨rfl,hb⟩;refine⟨_,rfl,?_⟩;replace aA:=A' (O' (g:=aG) (qB aA.out) hb);replace HB:=A' (W' (qK1 HB.out aQ.out) hb);(try clear hb);(try clear hb2);(try clear hk);(try clear hi))|((with_reducible refine gate_dst (N:=4) rfl ?_);refine box_event ?hg (N:=4) ?hd (cs:=#[.int .i64 0,.int .i64 0]) (t:=61) ?hr ?_;(case hd=>rfl);(case hg=>rfl);(case hr=>first|(go_simp;done)|(go_simp;rfl));intro aK hg w7 hbox hb;have n0_:=A' (O' (g:=aG) (qB aA.out) hb);have n1_:=A' (W' (qK1 HB.out aQ.out) hb);have n2_:=A' (hbox);have n3_:=A' ((by rw[hg];exact(V' (qK1 HB.out aQ.out)):w.heap.size≤aK));have n4_:=A' ((by rw[hg];exact(V' (qK1 HB.out aQ.out)):w.heap.size≤aK));have n5_:=A' ((by rw[hg];exact Nat.ne_of_lt (bL' (g:=aG) (qB aA.out)):aG≠aK));have n6_:=A' ((by rw[hg];exact Nat.ne_of_gt (bL' (g:=aG) (qB aA.out)):aK≠aG));clear aA;clear HB;have aA:=n0_;have HB:=n1_;have aE:=n2_;have dU:=n3_;have aR:=n4_;have aN:=n5_;have aT:=n6_;clear n0_ n1_ n2_ n3_ n4_ n5_ n6_;clear hb hbox hg;have eH:=aT.out;have eD:=aN.out;have bF:w7.cell? ⟨aK,0,none⟩=some (.int .i64 0):=(N' aE.out 0).trans rfl;have bI:w7.cell? ⟨aK,1,none⟩=some (.int .i64 0):=(N' aE.out 1).trans rfl;have bE:=Y' aE.out 0;have bJ:=Y' aE.out 1)|((with_reducible refine gate_dst (N:=12) rfl ?_);refine Kd.R_lit k51 _ 51 ?hg (N:=12) ?hd (xs:=([]:List (S51))) (inner:=[]) (ok:=fun _=>True) (okp:=fun _=>True) ?hr ?hp (fun _ hk=>hk) trivial (Below.refl _ _) (Nat.le_refl _) (by simp) ?_;(case hd=>rfl);(case hg=>rfl);(case hr=>first|(go_simp;done)|(go_simp;rfl));(case hp=>exact(Reps.none _ _));intro eF eL aZ hb hg_ hnew_;clear hg_ hnew_;(first|rw[← bB.out]at aZ|(simp only[Int.reduceToNat]at aZ;rw[← bB.out]at aZ));have n0_:=A' (Kd.R_lower aZ (V' (qK2 HB.out aQ.out aR.out)));have n1_:=A' (O' (g:=aG) (o:=.cells #[.int .i64 aJ,.int .i64 aH,.bool aM] 25 (0,0)) (qG2 aA.out aN.out aN.out) hb);have n2_:=A' (O' (g:=aK) (o:=.cells #[.int .i64 0,.int .i64 0] 61 (0,0)) (by(with_reducible repeat(first|refine G' ?_ _|refine I' ?_|refine hA' ?_ _));refine blk_put (cs:=#[.int .i64 0,.int .i64 0]) ?_ 1 _ rfl;(with_reducible repeat(first|refine G' ?_ _|refine I' ?_|refine hA' ?_ _));refine blk_put (cs:=#[.int .i64 0,.int .i64 0]) ?_ 0 _ rfl;(with_reducible repeat(first|refine G' ?_ _|refine I' ?_|refine hA' ?_ _));exact aE.out) hb);have n3_:=A' (W' (qK2 HB.out aQ.out aR.out) hb);clear aA;clear aE;clear HB;have bU:=n0_;have aA:=n1_;have aE:=n2_;have HB:=n3_;clear n0_ n1_ n2_ n3_;clear hb aZ))
  go_loopg [5,6] k (fun kq v5 v6 w'=>∃(aV:List (S51)) (aU:Int) (aD:Int) (aC:Int),v6= .int .i64 aU∧Aside0 (impl_PlainWay.l0 kq aV aU aJ aH aM aD aC=some (r1,r2))∧Aside0 (kq≤k)∧Aside0 (Kd.R k51 51 w' w.heap.size (fun _=>True) v5 aV)∧Aside0 (w'.heap[aG]? =some (.cells #[.int .i64 aJ,.int .i64 aH,.bool aM] 25 (0,0)))∧Aside0 (w'.heap[aK]? =some (.cells #[.int .i64 aD,.int .i64 aC] 61 (0,0)))∧Aside0 (Below w.heap.size w w'))
  case atStart=>exact⟨(bN),(0),(0),(0),qS,H',⟨Nat.le_refl _⟩,⟨qR bU.out⟩,⟨qB aA.out⟩,⟨qB aE.out⟩,⟨qK2 HB.out aQ.out aR.out⟩⟩
  case round=>
   clear H';try clear c1
   try clear p2
   try clear c3
   try clear c8
   try clear bD
   try clear bL
   try clear bH
   try clear bF
   try clear bI
   try clear bG
   try clear bK
   try clear bC
   try clear bE
   try clear bJ
   obtain⟨aV,aU,aD,aC,rfl,HA,dL,HO_5,aA,aE,HB⟩:=hrel
   cases gk with
   |zero=>exact absurd HA.out (by simp[impl_PlainWay.l0])
   |succ k1=>
    have H:=HA.out;clear HA;simp only[impl_PlainWay.l0]at H
    by_cases c12:aU<(wrap64 (aJ+aH))
    ·rw[if_pos c12]at H;have c12b0:decide (aU<(wrap64 (aJ+aH)))=true:=dT' c12;clear c12;replace H:=Option.bind_eq_some_iff.mp H;obtain⟨aI,bX,H⟩:=H;replace H:(if 0≤aI then(if aI<2 then(if aI=0 then(if aV.length<8796093022208 then(impl_PlainWay.l0 k1 (aV ++ [(⟨aI,aD⟩:S51)]) (wrap64 (aU+1)) aJ aH aM (wrap64 (aD+1)) aC)else(none))else(if aV.length<8796093022208 then(impl_PlainWay.l0 k1 (aV ++ [(⟨aI,aC⟩:S51)]) (wrap64 (aU+1)) aJ aH aM aD (wrap64 (aC+1)))else(none)))else(none))else(none))=some (r1,r2):=H;have dQ:=A' bX;clear bX
     by_cases c14:0≤aI
     ·rw[if_pos c14]at H;have c14b0:decide (0≤aI)=true:=dT' c14;clear c14
      by_cases c15:aI<2
      ·rw[if_pos c15]at H;have c15b0:decide (aI<2)=true:=dT' c15;clear c15
       by_cases c16:aI=0
       ·rw[if_pos c16]at H;have c16b0:(aI == 0)=true:=beq_iff_eq.mpr c16;have c16z:(aI:Int).toNat=0:=by have h0_:0≤aI:=oD' (by assumption);have h1_:aI<2:=oD' (by assumption);have h2_:=c16;omega
        have c16y:=eq_true (show 0≤aI from oD' (by assumption));have c16x:=eq_true (show aI<2 from oD' (by assumption));have c16b1:(aI != 0)=false:=bne_eq_false_iff_eq.mpr c16;clear c16
        by_cases c17:aV.length<8796093022208
        ·rw[if_pos c17]at H;have bO:=A' c17;clear c17;obtain⟨bV,aY⟩: ∃y_:List (S51),y_=(aV ++ [(⟨aI,aD⟩:S51)]):=⟨_,rfl⟩
         replace H:(impl_PlainWay.l0 k1 bV (wrap64 (aU+1)) aJ aH aM (wrap64 (aD+1)) aC)=some (r1,r2):=by first|(rw[aY];with_reducible exact H)|(have H2_:=(Option.bind_some _ _).symm.trans H;rw[aY];with_reducible exact H2_)|(have H2_:=(Option.bind_some _ _).symm.trans H;with_reducible exact H2_)|with_reducible exact H|(rw[aY];exact H)|exact H
         have bS:=A' aY;clear aY;have H':=A' H;clear H;have dR:=aN.out;have eB:=aT.out;have cK:wr.cell? ⟨aG,0,none⟩=some (.int .i64 aJ):=(N' aA.out 0).trans rfl;have cY:wr.cell? ⟨aG,1,none⟩=some (.int .i64 aH):=(N' aA.out 1).trans rfl;have cS:wr.cell? ⟨aG,2,none⟩=some (.bool aM):=(N' aA.out 2).trans rfl;have bZ:=Y' aA.out 0;have dE:=Y' aA.out 1;have cE:=Y' aA.out 2;go_wp2_with (first|((with_reducible refine gate_callee (f:=35) rfl ?_);refine goesL_ (some 24) rfl rfl Tryz.func35 (by kernel_rfl) rfl #[.agg #[.int .i64 aJ,.int .i64 aH,.bool aM],.int .i64 aU] rfl (by(try simp only[List.map_toArray,List.map_cons,List.map_nil]);first|done|rfl|(simp only[List.length_drop,List.length_take];rfl)) ?_;(with_reducible refine(impl_blockAt.calls aJ aH aM aU aI _ dQ.out).mono ?_);rintro e dW ⟨rfl,hb⟩;refine⟨_,rfl,?_⟩;replace HO_5:=A' (L' (qR HO_5.out) hb);replace aA:=A' (O' (g:=aG) (qB aA.out) hb);replace aE:=A' (O' (g:=aK) (qB aE.out) hb);replace HB:=A' (W' (qK2 HB.out aQ.out aR.out) hb);(try clear hb);(try clear hb2);(try clear hk);(try clear hi);have cQ:dW.cell? ⟨aK,0,none⟩=some (.int .i64 aD):=(N' aE.out 0).trans rfl;have cL:dW.cell? ⟨aK,1,none⟩=some (.int .i64 aC):=(N' aE.out 1).trans rfl;have cV:=Y' aE.out 0;have dA:=Y' aE.out 1)|((with_reducible refine gate_builtin (b:=.append) (xs:=#[.tmp 25,.tmp 31]) rfl ?_);at_builtin;refine Kd.R_append k51 (w0:=w) w.heap.size rfl (.tmp 25) (.tmp 31) 26 51 (.agg #[(.int .i64 0),(.int .i64 0)]) 16 rfl Tryz.underlying26 info51 rfl (by decide) (by omega) u5 aV (⟨aI,aD⟩:S51) [.int .i64 aI,.int .i64 aD] (fun _=>True) (fun _=>False) rfl rfl ?aP (fun _ hk=>hk.elim) ?aF ?aO ?aB ?aS ?aL ?_;(case aP=>exact k51_mkM _ _ _ (⟨aI,aD⟩:S51));(case aB=>exact(qK2 HB.out aQ.out aR.out));(case aF=>exact(fun _ _=>trivial));(case aO=>exact(qR HO_5.out));(case aS=>exact(V' (qK2 HB.out aQ.out aR.out)));(case aL=>have:=bO.out;omega);intro eI dX ho hb hg hat;rw[← bS.out]at ho;have n0_:=A' (blk_grown (g:=aG) (o:=.cells #[.int .i64 aJ,.int .i64 aH,.bool aM] 25 (0,0)) (qB aA.out) hg (Kd.R_ne HO_5.out aA.out (by decide)));have n1_:=A' (blk_grown (g:=aK) (o:=.cells #[.int .i64 aD,.int .i64 aC] 61 (0,0)) (qB aE.out) hg (Kd.R_ne HO_5.out aE.out (by decide)));have n2_:=A' (hb);have n3_:=A' (ho);clear aA;clear aE;clear HB;clear HO_5;have aA:=n0_;have aE:=n1_;have HB:=n2_;have bP:=n3_;clear n0_ n1_ n2_ n3_;clear ho hb hg hat;have dG:dX.cell? ⟨aK,0,none⟩=some (.int .i64 aD):=(N' aE.out 0).trans rfl;have cX:dX.cell? ⟨aK,1,none⟩=some (.int .i64 aC):=(N' aE.out 1).trans rfl;have cH:=Y' aE.out 0;have cD:=Y' aE.out 1))
         go_roundg k1
         case measure=>have:=dL.out;omega
         case rel=>exact⟨(bV),(wrap64 (aU+1)),(wrap64 (aD+1)),(aC),qS,H',⟨by have:=dL.out;omega⟩,⟨by(with_reducible repeat(first|apply B'|apply C'|apply D'));exact Q' (M' (p:=⟨aK,0,none⟩) (P' bP.out aE.out (by decide)) (fun _ hk=>hk.2) (.int .i64 (wrap64 (aD+1)))) (fun _ hk=>trivial)⟩,⟨qG1 aA.out aN.out⟩,⟨by(with_reducible repeat(first|refine G' ?_ _|refine I' ?_|refine hA' ?_ _));refine blk_put (cs:=#[.int .i64 aD,.int .i64 aC]) ?_ 0 _ rfl;(with_reducible repeat(first|refine G' ?_ _|refine I' ?_|refine hA' ?_ _));exact aE.out⟩,⟨qK2 HB.out aQ.out aR.out⟩⟩
        ·rw[if_neg c17]at H;exact absurd H (by simp)
       ·rw[if_neg c16]at H;have c16b0:(aI == 0)=false:=beq_eq_false_iff_ne.mpr c16;have c16z:(aI:Int).toNat=1:=by have h0_:0≤aI:=oD' (by assumption);have h1_:aI<2:=oD' (by assumption);have h2_:=c16;omega
        have c16y:=eq_true (show 0≤aI from oD' (by assumption));have c16x:=eq_true (show aI<2 from oD' (by assumption));have c16b1:(aI != 0)=true:=bne_iff_ne.mpr c16
        by_cases c24:aV.length<8796093022208
        ·rw[if_pos c24]at H;have bQ:=A' c24;clear c24;obtain⟨bW,aW⟩: ∃y_:List (S51),y_=(aV ++ [(⟨aI,aC⟩:S51)]):=⟨_,rfl⟩
         replace H:(impl_PlainWay.l0 k1 bW (wrap64 (aU+1)) aJ aH aM aD (wrap64 (aC+1)))=some (r1,r2):=by first|(rw[aW];with_reducible exact H)|(have H2_:=(Option.bind_some _ _).symm.trans H;rw[aW];with_reducible exact H2_)|(have H2_:=(Option.bind_some _ _).symm.trans H;with_reducible exact H2_)|with_reducible exact H|(rw[aW];exact H)|exact H
         have bM:=A' aW;clear aW;have H':=A' H;clear H;have eA:=aN.out;have dY:=aT.out;have cP:wr.cell? ⟨aG,0,none⟩=some (.int .i64 aJ):=(N' aA.out 0).trans rfl;have cM:wr.cell? ⟨aG,1,none⟩=some (.int .i64 aH):=(N' aA.out 1).trans rfl;have cN:wr.cell? ⟨aG,2,none⟩=some (.bool aM):=(N' aA.out 2).trans rfl;have cG:=Y' aA.out 0;have dB:=Y' aA.out 1;have cI:=Y' aA.out 2;go_wp2_with (first|((with_reducible refine gate_callee (f:=35) rfl ?_);refine goesL_ (some 24) rfl rfl Tryz.func35 (by kernel_rfl) rfl #[.agg #[.int .i64 aJ,.int .i64 aH,.bool aM],.int .i64 aU] rfl (by(try simp only[List.map_toArray,List.map_cons,List.map_nil]);first|done|rfl|(simp only[List.length_drop,List.length_take];rfl)) ?_;(with_reducible refine(impl_blockAt.calls aJ aH aM aU aI _ dQ.out).mono ?_);rintro e dS ⟨rfl,hb⟩;refine⟨_,rfl,?_⟩;replace HO_5:=A' (L' (qR HO_5.out) hb);replace aA:=A' (O' (g:=aG) (qB aA.out) hb);replace aE:=A' (O' (g:=aK) (qB aE.out) hb);replace HB:=A' (W' (qK2 HB.out aQ.out aR.out) hb);(try clear hb);(try clear hb2);(try clear hk);(try clear hi);have cU:dS.cell? ⟨aK,0,none⟩=some (.int .i64 aD):=(N' aE.out 0).trans rfl;have cT:dS.cell? ⟨aK,1,none⟩=some (.int .i64 aC):=(N' aE.out 1).trans rfl;have dF:=Y' aE.out 0;have dJ:=Y' aE.out 1)|((with_reducible refine gate_builtin (b:=.append) (xs:=#[.tmp 25,.tmp 31]) rfl ?_);at_builtin;refine Kd.R_append k51 (w0:=w) w.heap.size rfl (.tmp 25) (.tmp 31) 26 51 (.agg #[(.int .i64 0),(.int .i64 0)]) 16 rfl Tryz.underlying26 info51 rfl (by decide) (by omega) u5 aV (⟨aI,aC⟩:S51) [.int .i64 aI,.int .i64 aC] (fun _=>True) (fun _=>False) rfl rfl ?aP (fun _ hk=>hk.elim) ?aF ?aO ?aB ?aS ?aL ?_;(case aP=>exact k51_mkM _ _ _ (⟨aI,aC⟩:S51));(case aB=>exact(qK2 HB.out aQ.out aR.out));(case aF=>exact(fun _ _=>trivial));(case aO=>exact(qR HO_5.out));(case aS=>exact(V' (qK2 HB.out aQ.out aR.out)));(case aL=>have:=bQ.out;omega);intro eG dP ho hb hg hat;rw[← bM.out]at ho;have n0_:=A' (blk_grown (g:=aG) (o:=.cells #[.int .i64 aJ,.int .i64 aH,.bool aM] 25 (0,0)) (qB aA.out) hg (Kd.R_ne HO_5.out aA.out (by decide)));have n1_:=A' (blk_grown (g:=aK) (o:=.cells #[.int .i64 aD,.int .i64 aC] 61 (0,0)) (qB aE.out) hg (Kd.R_ne HO_5.out aE.out (by decide)));have n2_:=A' (hb);have n3_:=A' (ho);clear aA;clear aE;clear HB;clear HO_5;have aA:=n0_;have aE:=n1_;have HB:=n2_;have bT:=n3_;clear n0_ n1_ n2_ n3_;clear ho hb hg hat;have dM:dP.cell? ⟨aK,0,none⟩=some (.int .i64 aD):=(N' aE.out 0).trans rfl;have dN:dP.cell? ⟨aK,1,none⟩=some (.int .i64 aC):=(N' aE.out 1).trans rfl;have cR:=Y' aE.out 0;have cO:=Y' aE.out 1))
         go_roundg k1
         case measure=>have:=dL.out;omega
         case rel=>exact⟨(bW),(wrap64 (aU+1)),(aD),(wrap64 (aC+1)),qS,H',⟨by have:=dL.out;omega⟩,⟨by(with_reducible repeat(first|apply B'|apply C'|apply D'));exact Q' (M' (p:=⟨aK,1,none⟩) (P' bT.out aE.out (by decide)) (fun _ hk=>hk.2) (.int .i64 (wrap64 (aC+1)))) (fun _ hk=>trivial)⟩,⟨qG1 aA.out aN.out⟩,⟨by(with_reducible repeat(first|refine G' ?_ _|refine I' ?_|refine hA' ?_ _));refine blk_put (cs:=#[.int .i64 aD,.int .i64 aC]) ?_ 1 _ rfl;(with_reducible repeat(first|refine G' ?_ _|refine I' ?_|refine hA' ?_ _));exact aE.out⟩,⟨qK2 HB.out aQ.out aR.out⟩⟩
        ·rw[if_neg c24]at H;exact absurd H (by simp)
      ·rw[if_neg c15]at H;exact absurd H (by simp)
     ·rw[if_neg c14]at H;exact absurd H (by simp)
    ·rw[if_neg c12]at H;have c12b0:decide (aU<(wrap64 (aJ+aH)))=false:=dF' c12;clear c12;simp only[Option.some.injEq,Prod.mk.injEq]at H;obtain⟨rfl,rfl⟩:=H;have dZ:=aN.out;have dT:=aT.out;have cJ:wr.cell? ⟨aG,0,none⟩=some (.int .i64 aJ):=(N' aA.out 0).trans rfl;have dH:wr.cell? ⟨aG,1,none⟩=some (.int .i64 aH):=(N' aA.out 1).trans rfl;have cW:wr.cell? ⟨aG,2,none⟩=some (.bool aM):=(N' aA.out 2).trans rfl;have dI:=Y' aA.out 0;have cZ:=Y' aA.out 1;have dD:=Y' aA.out 2;go_wp2;go_ret2;exact⟨_,qE,qR HO_5.out,qK2 HB.out aQ.out aR.out⟩
 ·replace c3:=Bool.eq_false_iff.mpr c3;subst c3;have H1:(some (([]:List (S51)),1))=some (r1,r2):=by rw[if_neg (show¬(false=true) by decide)]at H;exact H
  clear H;have H:=H1;clear H1;simp only[Option.some.injEq,Prod.mk.injEq]at H;obtain⟨rfl,rfl⟩:=H;go_enter Tryz.func12,Tryz.ntmps12;go_wp2_with (first|((with_reducible refine gate_dst (N:=1) rfl ?_);refine box_event ?hg (N:=1) ?hd (cs:=#[.int .i64 aJ,.int .i64 aH,.bool aM]) (t:=25) ?hr ?_;(case hd=>rfl);(case hg=>rfl);(case hr=>first|(go_simp;done)|(go_simp;rfl));intro aG hg dO hbox hb;have n0_:=A' (W' (qK0 HB.out) hb);have n1_:=A' (hbox);have n2_:=A' ((by rw[hg];exact(V' (qK0 HB.out)):w.heap.size≤aG));have n3_:=A' ((by rw[hg];exact(V' (qK0 HB.out)):w.heap.size≤aG));clear HB;have HB:=n0_;have aA:=n1_;have bR:=n2_;have aQ:=n3_;clear n0_ n1_ n2_ n3_;clear hb hbox hg;have cA:dO.cell? ⟨aG,0,none⟩=some (.int .i64 aJ):=(N' aA.out 0).trans rfl;have cF:dO.cell? ⟨aG,1,none⟩=some (.int .i64 aH):=(N' aA.out 1).trans rfl;have dC:dO.cell? ⟨aG,2,none⟩=some (.bool aM):=(N' aA.out 2).trans rfl;have bY:=Y' aA.out 0;have cC:=Y' aA.out 1;have dK:=Y' aA.out 2)|((with_reducible refine gate_callee (f:=31) rfl ?_);refine goesL_ (some 9) rfl rfl Tryz.func31 (by kernel_rfl) rfl #[.agg #[.int .i64 aJ,.int .i64 aH,.bool aM]] rfl (by(try simp only[List.map_toArray,List.map_cons,List.map_nil]);first|done|rfl|(simp only[List.length_drop,List.length_take];rfl)) ?_;(with_reducible refine(impl_ValidPurchase.calls k aJ aH aM false _ A2.out).mono ?_);rintro e eK ⟨rfl,hb⟩;refine⟨_,rfl,?_⟩;replace aA:=A' (O' (g:=aG) (qB aA.out) hb);replace HB:=A' (W' (qK1 HB.out aQ.out) hb);(try clear hb);(try clear hb2);(try clear hk);(try clear hi)));go_ret2;exact⟨_,qE,by first|exact Kd.R_nil _ _ _ _ _|exact Kd.N_nil _ _ _ _ _|exact Kd.V_nil _ _ _ _ _|exact Kd.Q_nil _ _ _ _ _|exact Kd.S_nil _ _ _ _ _,qK1 HB.out aQ.out⟩
end Go.Proofs.YtifdihbndlmgpaaGreatDoor.HWys
