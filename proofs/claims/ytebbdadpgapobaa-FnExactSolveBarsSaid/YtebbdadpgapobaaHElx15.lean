-- Written by a program for this claim (the functions that the statement reaches, and that the program's code comes to them).
import Derived.Test.YtebbdadpgapobaaHElx0
namespace Go.Proofs.Ytebbdadpgapobaa.HEl
open Go.RowKit Go.Proofs.YtebbdadpgapobaaW.PrintWords Go.Proofs.YtebbdadpgapobaaW.PrintLast Go.Proofs.YtebbdadpgapobaaW.PrintMore
attribute [local go_sem] max2_int min2_int max_two min_two max_three min_three max_four min_four
set_option linter.unusedVariables false
set_option linter.unusedSimpArgs false
/-! ### laws_markKnotS: function 66 -/
def laws_markKnotS.l0:Nat→List (S90)→Int→Int→Option (Int×(List (S90)))
 |0,_,_,_=>none
 |k+1,x0,x1,x5=>if x5<(x0.length:Int)then(if 0≤x5 then((some (x0.set (x5:Int).toNat (⟨x1,(rd_T90 x0 x5).f1,(rd_T90 x0 x5).f2⟩:S90):List (S90))).bind fun aB=>((some (aB.set (x5:Int).toNat (⟨(rd_T90 aB x5).f0,wrap64 (x1+1),(rd_T90 aB x5).f2⟩:S90):List (S90))).bind fun aA=>(laws_markKnotS.l0 k (aA.set (x5:Int).toNat (⟨(rd_T90 aA x5).f0,(rd_T90 aA x5).f1,((Int.tmod (wrap64 ((wrap64 (x1+1))+1)) 3) == 0)⟩:S90)) (wrap64 ((wrap64 ((wrap64 (x1+1))+1))+1)) (wrap64 (x5+1)))))else(none))else(some (x1,x0))
def laws_markKnotS.f (k:Nat) (l0:List (S90)) (a1:Int):Option (Int×(List (S90))):=laws_markKnotS.l0 k l0 a1 0
theorem laws_markKnotS.mono_l: ∀k,(∀y0 y1 y2,LeO (laws_markKnotS.l0 k y0 y1 y2) (laws_markKnotS.l0 (k+1) y0 y1 y2))
 |0=>fun _ _ _ r h=>by simp[laws_markKnotS.l0]at h
 |k+1=>by
  have aA:=laws_markKnotS.mono_l k
  ·intro y0 y1 y2
   unfold laws_markKnotS.l0
   repeat' first
   |(with_reducible exact aA _ _ _)
   |(with_reducible exact LeO.refl _)
   |(with_reducible exact LeO.none _)
   |(with_reducible refine LeO.ite ?_ ?_)
   |(with_reducible refine LeO.bind ?_ (fun _=>?_))
   |exact aA _ _ _
   |exact LeO.none _
   |refine LeO.ite ?_ ?_
   |refine LeO.bind ?_ (fun _=>?_)
theorem laws_markKnotS.mono: ∀a0 a1 k,LeO (laws_markKnotS.f k a0 a1) (laws_markKnotS.f (k+1) a0 a1):=by
 intro a0 a1 k
 have aA:=laws_markKnotS.mono_l k
 unfold laws_markKnotS.f
 repeat' first
  |(with_reducible exact aA _ _ _)
  |(with_reducible exact LeO.refl _)
  |(with_reducible exact LeO.none _)
  |(with_reducible refine LeO.ite ?_ ?_)
  |(with_reducible refine LeO.bind ?_ (fun _=>?_))
  |exact aA _ _ _
  |exact LeO.none _
  |refine LeO.ite ?_ ?_
  |refine LeO.bind ?_ (fun _=>?_)
set_option maxHeartbeats 8000000 in
set_option maxRecDepth 100000 in
theorem laws_markKnotS.calls (k:Nat) (P0_:Nat→Prop) (u9000_:Value) (l0:List (S90)) (a1:Int) (r1:Int) (r2:List (S90)) (w0 w:World) (hB:Below w0.heap.size w0 w) (dB:Kd.R k90 90 w w0.heap.size P0_ u9000_ l0) (h:laws_markKnotS.f k l0 a1=some (r1,r2)):
 Calls Try.prog 66 #[u9000_,.int .i64 a1] w fun e w'=>e= .returned (.int .i64 r1)∧Kd.R k90 90 w' w0.heap.size (fun k_=>(P0_ k_∨w.heap.size≤k_)) u9000_ r2∧Below w0.heap.size w0 w'∧Kept w w' (fun k_=>P0_ k_):=by
 have dE:=A' (show Kd.R k90 90 w w0.heap.size (fun k_=>(P0_ k_∨w.heap.size≤k_)) u9000_ l0 from Q' dB (fun k_ hk=>(.inl hk)));have HK:=A' (Kept.refl w (fun k_=>P0_ k_));have dJ:=A' hB.size;have HB:=A' hB;clear hB;have H:(laws_markKnotS.l0 k l0 a1 0)=some (r1,r2):=h;clear h;have H':=A' H;clear H;go_enter Try.func66,Try.ntmps66;go_wp2
 go_loopg [1,5] k (fun kq v1 v5 w'=>∃(aB:List (S90)) (aC:Int) (aA:Int),v1= .int .i64 aC∧v5= .int .i64 aA∧Aside0 (laws_markKnotS.l0 kq aB aC aA=some (r1,r2))∧Aside0 (kq≤k)∧Aside0 (Kd.R k90 90 w' w0.heap.size (fun k_=>(P0_ k_∨w.heap.size≤k_)) u9000_ aB)∧Aside0 (Kept w w' (fun k_=>P0_ k_))∧Aside0 (Below w0.heap.size w0 w'))
 case atStart=>exact⟨(l0),(a1),(0),qS,qS,H',⟨Nat.le_refl _⟩,⟨qR dE.out⟩,⟨by repeat(first|(with_reducible first|exact HK.out|apply Kept.alloc|apply Kept.drewN|apply Kept.drew)|exact HK.out)⟩,⟨qK0 HB.out⟩⟩
 case round=>
  clear H';try clear p2
  obtain⟨aB,aC,aA,rfl,rfl,HA,cY,HO_0,HK,HB⟩:=hrel
  cases gk with
  |zero=>exact absurd HA.out (by simp[laws_markKnotS.l0])
  |succ k1=>
   have H:=HA.out;clear HA;simp only[laws_markKnotS.l0]at H
   by_cases c3:aA<(aB.length:Int)
   ·rw[if_pos c3]at H;have c3b0:decide (aA<(aB.length:Int))=true:=dT' c3;clear c3
    by_cases c4:0≤aA
    ·rw[if_pos c4]at H;have c4b0:decide (0≤aA)=true:=dT' c4;clear c4;obtain⟨aF,aH⟩: ∃y_:List (S90),y_=(aB.set (aA:Int).toNat (⟨aC,(rd_T90 aB aA).f1,(rd_T90 aB aA).f2⟩:S90)):=⟨_,rfl⟩
     replace H:((some (aF.set (aA:Int).toNat (⟨(rd_T90 aF aA).f0,wrap64 (aC+1),(rd_T90 aF aA).f2⟩:S90):List (S90))).bind fun aD=>(laws_markKnotS.l0 k1 (aD.set (aA:Int).toNat (⟨(rd_T90 aD aA).f0,(rd_T90 aD aA).f1,((Int.tmod (wrap64 ((wrap64 (aC+1))+1)) 3) == 0)⟩:S90)) (wrap64 ((wrap64 ((wrap64 (aC+1))+1))+1)) (wrap64 (aA+1))))=some (r1,r2):=by first|(rw[aH];with_reducible exact H)|(have H2_:=(Option.bind_some _ _).symm.trans H;rw[aH];with_reducible exact H2_)|(have H2_:=(Option.bind_some _ _).symm.trans H;with_reducible exact H2_)|with_reducible exact H|(rw[aH];exact H)|exact H
     have bP:=A' aH;clear aH;obtain⟨aD,aI⟩: ∃y_:List (S90),y_=(aF.set (aA:Int).toNat (⟨(rd_T90 aF aA).f0,wrap64 (aC+1),(rd_T90 aF aA).f2⟩:S90)):=⟨_,rfl⟩
     replace H:(laws_markKnotS.l0 k1 (aD.set (aA:Int).toNat (⟨(rd_T90 aD aA).f0,(rd_T90 aD aA).f1,((Int.tmod (wrap64 ((wrap64 (aC+1))+1)) 3) == 0)⟩:S90)) (wrap64 ((wrap64 ((wrap64 (aC+1))+1))+1)) (wrap64 (aA+1)))=some (r1,r2):=by first|(rw[aI];with_reducible exact H)|(have H2_:=(Option.bind_some _ _).symm.trans H;rw[aI];with_reducible exact H2_)|(have H2_:=(Option.bind_some _ _).symm.trans H;with_reducible exact H2_)|with_reducible exact H|(rw[aI];exact H)|exact H
     have bQ:=A' aI;clear aI;obtain⟨aX,aG⟩: ∃y_:List (S90),y_=(aD.set (aA:Int).toNat (⟨(rd_T90 aD aA).f0,(rd_T90 aD aA).f1,((Int.tmod (wrap64 ((wrap64 (aC+1))+1)) 3) == 0)⟩:S90)):=⟨_,rfl⟩
     replace H:(laws_markKnotS.l0 k1 aX (wrap64 ((wrap64 ((wrap64 (aC+1))+1))+1)) (wrap64 (aA+1)))=some (r1,r2):=by first|(rw[aG];with_reducible exact H)|(have H2_:=(Option.bind_some _ _).symm.trans H;rw[aG];with_reducible exact H2_)|(have H2_:=(Option.bind_some _ _).symm.trans H;with_reducible exact H2_)|with_reducible exact H|(rw[aG];exact H)|exact H
     have bO:=A' aG;clear aG;have H':=A' H;clear H;obtain⟨dO,bF,dA⟩:=Kd.R_slice HO_0.out;subst dA;have p5:0≤(aA:Int):=oD' qA;have q5:(aA:Int)<((aB.length:Int):Int):=oD' qA;obtain⟨aE,dM,cO,cM,dG,dK,cQ⟩:=Kd.R_form HO_0.out (by omega);(first|cases cO|(injection cO with ea_ en_ ec_;(first|subst ea_|(injection ea_ with ea_;subst ea_));subst ec_;clear en_));have bT:=A' cM;have dP:=A' cQ;clear cM dG cQ;have cX:=A' (show(P0_ aE∨w.heap.size≤aE)from(HO_0.out.1 _ rfl));obtain⟨dQ,bX,cH,aR,aO⟩:=Kd.R_elem HO_0.out z90 (aA:Int) p5 q5;obtain rfl:=k90_openM cH;have cZ:wr.cell? ⟨aE,(aA:Int).toNat*3,none⟩=some (.int .i64 ((rd_T90 aB aA).f0)):=aR 0 _ rfl;have bY:wr.cell? ⟨aE,(aA:Int).toNat*3+1,none⟩=some (.int .i64 ((rd_T90 aB aA).f1)):=aR 1 _ rfl;have cA:wr.cell? ⟨aE,(aA:Int).toNat*3+2,none⟩=some (.bool ((rd_T90 aB aA).f2)):=aR 2 _ rfl;have cJ:wr.frozen? ⟨aE,(aA:Int).toNat*3,none⟩=false:=aO 0;have cL:wr.frozen? ⟨aE,(aA:Int).toNat*3+1,none⟩=false:=aO 1;have cF:wr.frozen? ⟨aE,(aA:Int).toNat*3+2,none⟩=false:=aO 2;clear bX aR aO cH;replace p5:=eq_true p5;replace q5:=eq_true q5;have cG:=A' (show Kd.R k90 90 wr w0.heap.size (fun k_=>(P0_ k_∨w.heap.size≤k_)) (.slice (some ⟨aE,0,none⟩) aB.length bF) aB from(qR HO_0.out));obtain⟨dL,bI,cC,bB,bK⟩:=Kd.R_elem cG.out z90 (aA:Int) (oD' qA) (by have h_:(aA:Int)<((aB.length:Int):Int):=oD' qA;first|exact h_|(have e_:=(Kd.R_reads' HO_0.out).1;omega)|simpa using h_);obtain rfl:=k90_openM cC;have bR:=Kd.R_seg cG.out (aA:Int) (oD' qA) (by have h_:(aA:Int)<((aB.length:Int):Int):=oD' qA;first|exact h_|(have e_:=(Kd.R_reads' HO_0.out).1;omega)|simpa using h_) (seg:=[.int .i64 aC]) (j:=0) bI bB (show 1≤3 from by decide) (x':=(⟨aC,(rd_T90 aB aA).f1,(rd_T90 aB aA).f2⟩:S90)) (k90_mkM _ _ _ (⟨aC,(rd_T90 aB aA).f1,(rd_T90 aB aA).f2⟩:S90)) (fun _ hk=>hk);have bG:=bB 0 _ rfl;(try simp only[show(k90).sz=3 from rfl,Nat.mul_one,Nat.add_zero]at bG);have bH:=bK 0;(try simp only[show(k90).sz=3 from rfl,Nat.mul_one,Nat.add_zero]at bH);clear bI bB bK cC;go_wp2_with (first|((with_reducible refine gate_store (t:=2) (p:=16) rfl ?_);refine store_event (t:=2) (p:=16) (v:=?vo_w10) (w1:=(wr.setCell ⟨aE,(aA:Int).toNat*3,none⟩ (.int .i64 aC))) ?hg ?ho ?hn ?hr ?_;(case ho=>rfl);(case hg=>rfl);(case hn=>rfl);(case hr=>first|(go_simp;done)|(go_simp;rfl));intro aJ hw;have hg:wr.grownBy aJ (some aE):=(by rw[hw];exact bR.2);have hp_:Kd.R k90 90 aJ w0.heap.size (fun k_=>(P0_ k_∨w.heap.size≤k_)) (.slice (some ⟨aE,0,none⟩) aB.length bF) aF:=(by rw[hw,bP.out];exact bR.1);clear bR;have n0_:=A' (hp_);have n1_:=A' ((by rw[hw];exact E' (HB.out) bT.out:Below w0.heap.size w0 aJ));have n2_:=A' (Kept.of_grown (S:=(fun k_=>P0_ k_)) hg (by repeat(first|(with_reducible first|exact HK.out|apply Kept.alloc|apply Kept.drewN|apply Kept.drew)|exact HK.out)) (fun k_ e_=>(HO_0.out.1 k_ e_)));clear HO_0;clear HB;clear HK;have HO_0:=n0_;have HB:=n1_;have HK:=n2_;clear n0_ n1_ n2_;clear hg hw hp_;have p6:0≤(aA:Int):=oD' qA;have q6:(aA:Int)<((aB.length:Int):Int):=oD' qA;obtain⟨dN,bV,cS,aN,aP⟩:=Kd.R_elem HO_0.out z90 (aA:Int) p6 q6;obtain rfl:=k90_openM cS;have cD:aJ.cell? ⟨aE,(aA:Int).toNat*3,none⟩=some (.int .i64 ((rd_T90 aF aA).f0)):=aN 0 _ rfl;have cP:aJ.cell? ⟨aE,(aA:Int).toNat*3+1,none⟩=some (.int .i64 ((rd_T90 aF aA).f1)):=aN 1 _ rfl;have cW:aJ.cell? ⟨aE,(aA:Int).toNat*3+2,none⟩=some (.bool ((rd_T90 aF aA).f2)):=aN 2 _ rfl;have cN:aJ.frozen? ⟨aE,(aA:Int).toNat*3,none⟩=false:=aP 0;have cU:aJ.frozen? ⟨aE,(aA:Int).toNat*3+1,none⟩=false:=aP 1;have bZ:aJ.frozen? ⟨aE,(aA:Int).toNat*3+2,none⟩=false:=aP 2;clear bV aN aP cS;replace p6:=eq_true p6;replace q6:=eq_true q6;have bM:=A' (show Kd.R k90 90 aJ w0.heap.size (fun k_=>(P0_ k_∨w.heap.size≤k_)) (.slice (some ⟨aE,0,none⟩) aB.length bF) aF from(qR HO_0.out));obtain⟨dD,aW,bN,aL,aT⟩:=Kd.R_elem bM.out z90 (aA:Int) (oD' qA) (by have h_:(aA:Int)<((aB.length:Int):Int):=oD' qA;first|exact h_|(have e_:=(Kd.R_reads' HO_0.out).1;omega)|simpa using h_);obtain rfl:=k90_openM bN;have bC:=Kd.R_seg bM.out (aA:Int) (oD' qA) (by have h_:(aA:Int)<((aB.length:Int):Int):=oD' qA;first|exact h_|(have e_:=(Kd.R_reads' HO_0.out).1;omega)|simpa using h_) (seg:=[.int .i64 (wrap64 (aC+1))]) (j:=1) aW aL (show 2≤3 from by decide) (x':=(⟨(rd_T90 aF aA).f0,wrap64 (aC+1),(rd_T90 aF aA).f2⟩:S90)) (k90_mkM _ _ _ (⟨(rd_T90 aF aA).f0,wrap64 (aC+1),(rd_T90 aF aA).f2⟩:S90)) (fun _ hk=>hk);have bE:=aL 1 _ rfl;(try simp only[show(k90).sz=3 from rfl,Nat.mul_one,Nat.add_zero]at bE);have bA:=aT 1;(try simp only[show(k90).sz=3 from rfl,Nat.mul_one,Nat.add_zero]at bA);clear aW aL aT bN)|((with_reducible refine gate_store (t:=2) (p:=23) rfl ?_);refine store_event (t:=2) (p:=23) (v:=?vo_w12) (w1:=(aJ.setCell ⟨aE,(aA:Int).toNat*3+1,none⟩ (.int .i64 (wrap64 (aC+1))))) ?hg ?ho ?hn ?hr ?_;(case ho=>rfl);(case hg=>rfl);(case hn=>rfl);(case hr=>first|(go_simp;done)|(go_simp;rfl));intro aK hw;have hg:aJ.grownBy aK (some aE):=(by rw[hw];exact bC.2);have hp_:Kd.R k90 90 aK w0.heap.size (fun k_=>(P0_ k_∨w.heap.size≤k_)) (.slice (some ⟨aE,0,none⟩) aB.length bF) aD:=(by rw[hw,bQ.out];exact bC.1);clear bC;have n0_:=A' (hp_);have n1_:=A' ((by rw[hw];exact E' (HB.out) bT.out:Below w0.heap.size w0 aK));have n2_:=A' (Kept.of_grown (S:=(fun k_=>P0_ k_)) hg (by repeat(first|(with_reducible first|exact HK.out|apply Kept.alloc|apply Kept.drewN|apply Kept.drew)|exact HK.out)) (fun k_ e_=>(HO_0.out.1 k_ e_)));clear HO_0;clear HB;clear HK;have HO_0:=n0_;have HB:=n1_;have HK:=n2_;clear n0_ n1_ n2_;clear hg hw hp_;have p7:0≤(aA:Int):=oD' qA;have q7:(aA:Int)<((aB.length:Int):Int):=oD' qA;obtain⟨dI,bU,cI,aQ,aS⟩:=Kd.R_elem HO_0.out z90 (aA:Int) p7 q7;obtain rfl:=k90_openM cI;have cB:aK.cell? ⟨aE,(aA:Int).toNat*3,none⟩=some (.int .i64 ((rd_T90 aD aA).f0)):=aQ 0 _ rfl;have cT:aK.cell? ⟨aE,(aA:Int).toNat*3+1,none⟩=some (.int .i64 ((rd_T90 aD aA).f1)):=aQ 1 _ rfl;have cE:aK.cell? ⟨aE,(aA:Int).toNat*3+2,none⟩=some (.bool ((rd_T90 aD aA).f2)):=aQ 2 _ rfl;have cR:aK.frozen? ⟨aE,(aA:Int).toNat*3,none⟩=false:=aS 0;have cV:aK.frozen? ⟨aE,(aA:Int).toNat*3+1,none⟩=false:=aS 1;have cK:aK.frozen? ⟨aE,(aA:Int).toNat*3+2,none⟩=false:=aS 2;clear bU aQ aS cI;replace p7:=eq_true p7;replace q7:=eq_true q7;have bL:=A' (show Kd.R k90 90 aK w0.heap.size (fun k_=>(P0_ k_∨w.heap.size≤k_)) (.slice (some ⟨aE,0,none⟩) aB.length bF) aD from(qR HO_0.out));obtain⟨dC,aU,bJ,aM,aV⟩:=Kd.R_elem bL.out z90 (aA:Int) (oD' qA) (by have h_:(aA:Int)<((aB.length:Int):Int):=oD' qA;first|exact h_|(have e_:=(Kd.R_reads' HO_0.out).1;omega)|simpa using h_);obtain rfl:=k90_openM bJ;have aZ:=Kd.R_seg bL.out (aA:Int) (oD' qA) (by have h_:(aA:Int)<((aB.length:Int):Int):=oD' qA;first|exact h_|(have e_:=(Kd.R_reads' HO_0.out).1;omega)|simpa using h_) (seg:=[.bool ((Int.tmod (wrap64 ((wrap64 (aC+1))+1)) 3) == 0)]) (j:=2) aU aM (show 3≤3 from by decide) (x':=(⟨(rd_T90 aD aA).f0,(rd_T90 aD aA).f1,((Int.tmod (wrap64 ((wrap64 (aC+1))+1)) 3) == 0)⟩:S90)) (k90_mkM _ _ _ (⟨(rd_T90 aD aA).f0,(rd_T90 aD aA).f1,((Int.tmod (wrap64 ((wrap64 (aC+1))+1)) 3) == 0)⟩:S90)) (fun _ hk=>hk);have bD:=aM 2 _ rfl;(try simp only[show(k90).sz=3 from rfl,Nat.mul_one,Nat.add_zero]at bD);have aY:=aV 2;(try simp only[show(k90).sz=3 from rfl,Nat.mul_one,Nat.add_zero]at aY);clear aU aM aV bJ)|((with_reducible refine gate_store (t:=4) (p:=32) rfl ?_);refine store_event (t:=4) (p:=32) (v:=?vo_w14) (w1:=(aK.setCell ⟨aE,(aA:Int).toNat*3+2,none⟩ (.bool ((Int.tmod (wrap64 ((wrap64 (aC+1))+1)) 3) == 0)))) ?hg ?ho ?hn ?hr ?_;(case ho=>rfl);(case hg=>rfl);(case hn=>rfl);(case hr=>first|(go_simp;done)|(go_simp;rfl));intro bS hw;have hg:aK.grownBy bS (some aE):=(by rw[hw];exact aZ.2);have hp_:Kd.R k90 90 bS w0.heap.size (fun k_=>(P0_ k_∨w.heap.size≤k_)) (.slice (some ⟨aE,0,none⟩) aB.length bF) aX:=(by rw[hw,bO.out];exact aZ.1);clear aZ;have n0_:=A' (hp_);have n1_:=A' ((by rw[hw];exact E' (HB.out) bT.out:Below w0.heap.size w0 bS));have n2_:=A' (Kept.of_grown (S:=(fun k_=>P0_ k_)) hg (by repeat(first|(with_reducible first|exact HK.out|apply Kept.alloc|apply Kept.drewN|apply Kept.drew)|exact HK.out)) (fun k_ e_=>(HO_0.out.1 k_ e_)));clear HO_0;clear HB;clear HK;have HO_0:=n0_;have HB:=n1_;have HK:=n2_;clear n0_ n1_ n2_;clear hg hw hp_))
     go_roundg k1
     case measure=>have:=cY.out;omega
     case rel=>exact⟨(aX),(wrap64 ((wrap64 ((wrap64 (aC+1))+1))+1)),(wrap64 (aA+1)),qS,qS,H',⟨by have:=cY.out;omega⟩,⟨qR HO_0.out⟩,⟨by repeat(first|(with_reducible first|exact HK.out|apply Kept.alloc|apply Kept.drewN|apply Kept.drew)|exact HK.out)⟩,⟨qK0 HB.out⟩⟩
    ·rw[if_neg c4]at H;exact absurd H (by simp)
   ·rw[if_neg c3]at H;have c3b0:decide (aA<(aB.length:Int))=false:=dF' c3;clear c3;simp only[Option.some.injEq,Prod.mk.injEq]at H;obtain⟨rfl,rfl⟩:=H;obtain⟨dH,dF,bW⟩:=Kd.R_slice HO_0.out;subst bW;go_wp2;go_ret;exact⟨qE,qR HO_0.out,qK0 HB.out,by repeat(first|(with_reducible first|exact HK.out|apply Kept.alloc|apply Kept.drewN|apply Kept.drew)|exact HK.out)⟩
/-! ### laws_markBarS: function 67 -/
def laws_markBarS.l0:Nat→List (S104)→Int→Int→Option (Int×(List (S104)))
 |0,_,_,_=>none
 |k+1,x0,x1,x5=>if x5<(x0.length:Int)then(if 0≤x5 then((some (x0.set (x5:Int).toNat (⟨x1,(rd_T104 x0 x5).f1,(rd_T104 x0 x5).f2⟩:S104):List (S104))).bind fun aB=>((some (aB.set (x5:Int).toNat (⟨(rd_T104 aB x5).f0,wrap64 (x1+1),(rd_T104 aB x5).f2⟩:S104):List (S104))).bind fun aA=>(laws_markBarS.l0 k (aA.set (x5:Int).toNat (⟨(rd_T104 aA x5).f0,(rd_T104 aA x5).f1,((Int.tmod (wrap64 ((wrap64 (x1+1))+1)) 3) == 0)⟩:S104)) (wrap64 ((wrap64 ((wrap64 (x1+1))+1))+1)) (wrap64 (x5+1)))))else(none))else(some (x1,x0))
def laws_markBarS.f (k:Nat) (l0:List (S104)) (a1:Int):Option (Int×(List (S104))):=laws_markBarS.l0 k l0 a1 0
theorem laws_markBarS.mono_l: ∀k,(∀y0 y1 y2,LeO (laws_markBarS.l0 k y0 y1 y2) (laws_markBarS.l0 (k+1) y0 y1 y2))
 |0=>fun _ _ _ r h=>by simp[laws_markBarS.l0]at h
 |k+1=>by
  have aA:=laws_markBarS.mono_l k
  ·intro y0 y1 y2
   unfold laws_markBarS.l0
   repeat' first
   |(with_reducible exact aA _ _ _)
   |(with_reducible exact LeO.refl _)
   |(with_reducible exact LeO.none _)
   |(with_reducible refine LeO.ite ?_ ?_)
   |(with_reducible refine LeO.bind ?_ (fun _=>?_))
   |exact aA _ _ _
   |exact LeO.none _
   |refine LeO.ite ?_ ?_
   |refine LeO.bind ?_ (fun _=>?_)
theorem laws_markBarS.mono: ∀a0 a1 k,LeO (laws_markBarS.f k a0 a1) (laws_markBarS.f (k+1) a0 a1):=by
 intro a0 a1 k
 have aA:=laws_markBarS.mono_l k
 unfold laws_markBarS.f
 repeat' first
  |(with_reducible exact aA _ _ _)
  |(with_reducible exact LeO.refl _)
  |(with_reducible exact LeO.none _)
  |(with_reducible refine LeO.ite ?_ ?_)
  |(with_reducible refine LeO.bind ?_ (fun _=>?_))
  |exact aA _ _ _
  |exact LeO.none _
  |refine LeO.ite ?_ ?_
  |refine LeO.bind ?_ (fun _=>?_)
set_option maxHeartbeats 8000000 in
set_option maxRecDepth 100000 in
theorem laws_markBarS.calls (k:Nat) (P0_:Nat→Prop) (u9000_:Value) (l0:List (S104)) (a1:Int) (r1:Int) (r2:List (S104)) (w0 w:World) (hB:Below w0.heap.size w0 w) (dB:Kd.R k104 104 w w0.heap.size P0_ u9000_ l0) (h:laws_markBarS.f k l0 a1=some (r1,r2)):
 Calls Try.prog 67 #[u9000_,.int .i64 a1] w fun e w'=>e= .returned (.int .i64 r1)∧Kd.R k104 104 w' w0.heap.size (fun k_=>(P0_ k_∨w.heap.size≤k_)) u9000_ r2∧Below w0.heap.size w0 w'∧Kept w w' (fun k_=>P0_ k_):=by
 have dE:=A' (show Kd.R k104 104 w w0.heap.size (fun k_=>(P0_ k_∨w.heap.size≤k_)) u9000_ l0 from Q' dB (fun k_ hk=>(.inl hk)));have HK:=A' (Kept.refl w (fun k_=>P0_ k_));have dJ:=A' hB.size;have HB:=A' hB;clear hB;have H:(laws_markBarS.l0 k l0 a1 0)=some (r1,r2):=h;clear h;have H':=A' H;clear H;go_enter Try.func67,Try.ntmps67;go_wp2
 go_loopg [1,5] k (fun kq v1 v5 w'=>∃(aB:List (S104)) (aC:Int) (aA:Int),v1= .int .i64 aC∧v5= .int .i64 aA∧Aside0 (laws_markBarS.l0 kq aB aC aA=some (r1,r2))∧Aside0 (kq≤k)∧Aside0 (Kd.R k104 104 w' w0.heap.size (fun k_=>(P0_ k_∨w.heap.size≤k_)) u9000_ aB)∧Aside0 (Kept w w' (fun k_=>P0_ k_))∧Aside0 (Below w0.heap.size w0 w'))
 case atStart=>exact⟨(l0),(a1),(0),qS,qS,H',⟨Nat.le_refl _⟩,⟨qR dE.out⟩,⟨by repeat(first|(with_reducible first|exact HK.out|apply Kept.alloc|apply Kept.drewN|apply Kept.drew)|exact HK.out)⟩,⟨qK0 HB.out⟩⟩
 case round=>
  clear H';try clear p2
  obtain⟨aB,aC,aA,rfl,rfl,HA,cY,HO_0,HK,HB⟩:=hrel
  cases gk with
  |zero=>exact absurd HA.out (by simp[laws_markBarS.l0])
  |succ k1=>
   have H:=HA.out;clear HA;simp only[laws_markBarS.l0]at H
   by_cases c3:aA<(aB.length:Int)
   ·rw[if_pos c3]at H;have c3b0:decide (aA<(aB.length:Int))=true:=dT' c3;clear c3
    by_cases c4:0≤aA
    ·rw[if_pos c4]at H;have c4b0:decide (0≤aA)=true:=dT' c4;clear c4;obtain⟨aF,aG⟩: ∃y_:List (S104),y_=(aB.set (aA:Int).toNat (⟨aC,(rd_T104 aB aA).f1,(rd_T104 aB aA).f2⟩:S104)):=⟨_,rfl⟩
     replace H:((some (aF.set (aA:Int).toNat (⟨(rd_T104 aF aA).f0,wrap64 (aC+1),(rd_T104 aF aA).f2⟩:S104):List (S104))).bind fun aD=>(laws_markBarS.l0 k1 (aD.set (aA:Int).toNat (⟨(rd_T104 aD aA).f0,(rd_T104 aD aA).f1,((Int.tmod (wrap64 ((wrap64 (aC+1))+1)) 3) == 0)⟩:S104)) (wrap64 ((wrap64 ((wrap64 (aC+1))+1))+1)) (wrap64 (aA+1))))=some (r1,r2):=by first|(rw[aG];with_reducible exact H)|(have H2_:=(Option.bind_some _ _).symm.trans H;rw[aG];with_reducible exact H2_)|(have H2_:=(Option.bind_some _ _).symm.trans H;with_reducible exact H2_)|with_reducible exact H|(rw[aG];exact H)|exact H
     have bG:=A' aG;clear aG;obtain⟨aD,aI⟩: ∃y_:List (S104),y_=(aF.set (aA:Int).toNat (⟨(rd_T104 aF aA).f0,wrap64 (aC+1),(rd_T104 aF aA).f2⟩:S104)):=⟨_,rfl⟩
     replace H:(laws_markBarS.l0 k1 (aD.set (aA:Int).toNat (⟨(rd_T104 aD aA).f0,(rd_T104 aD aA).f1,((Int.tmod (wrap64 ((wrap64 (aC+1))+1)) 3) == 0)⟩:S104)) (wrap64 ((wrap64 ((wrap64 (aC+1))+1))+1)) (wrap64 (aA+1)))=some (r1,r2):=by first|(rw[aI];with_reducible exact H)|(have H2_:=(Option.bind_some _ _).symm.trans H;rw[aI];with_reducible exact H2_)|(have H2_:=(Option.bind_some _ _).symm.trans H;with_reducible exact H2_)|with_reducible exact H|(rw[aI];exact H)|exact H
     have bI:=A' aI;clear aI;obtain⟨bD,aH⟩: ∃y_:List (S104),y_=(aD.set (aA:Int).toNat (⟨(rd_T104 aD aA).f0,(rd_T104 aD aA).f1,((Int.tmod (wrap64 ((wrap64 (aC+1))+1)) 3) == 0)⟩:S104)):=⟨_,rfl⟩
     replace H:(laws_markBarS.l0 k1 bD (wrap64 ((wrap64 ((wrap64 (aC+1))+1))+1)) (wrap64 (aA+1)))=some (r1,r2):=by first|(rw[aH];with_reducible exact H)|(have H2_:=(Option.bind_some _ _).symm.trans H;rw[aH];with_reducible exact H2_)|(have H2_:=(Option.bind_some _ _).symm.trans H;with_reducible exact H2_)|with_reducible exact H|(rw[aH];exact H)|exact H
     have bP:=A' aH;clear aH;have H':=A' H;clear H;obtain⟨dO,bF,dA⟩:=Kd.R_slice HO_0.out;subst dA;have p5:0≤(aA:Int):=oD' qA;have q5:(aA:Int)<((aB.length:Int):Int):=oD' qA;obtain⟨aE,dM,cO,cM,dG,dK,cQ⟩:=Kd.R_form HO_0.out (by omega);(first|cases cO|(injection cO with ea_ en_ ec_;(first|subst ea_|(injection ea_ with ea_;subst ea_));subst ec_;clear en_));have bT:=A' cM;have dP:=A' cQ;clear cM dG cQ;have cX:=A' (show(P0_ aE∨w.heap.size≤aE)from(HO_0.out.1 _ rfl));obtain⟨dQ,bX,cH,aR,aO⟩:=Kd.R_elem HO_0.out z104 (aA:Int) p5 q5;obtain rfl:=k104_openM cH;have cZ:wr.cell? ⟨aE,(aA:Int).toNat*3,none⟩=some (.int .i64 ((rd_T104 aB aA).f0)):=aR 0 _ rfl;have bY:wr.cell? ⟨aE,(aA:Int).toNat*3+1,none⟩=some (.int .i64 ((rd_T104 aB aA).f1)):=aR 1 _ rfl;have cA:wr.cell? ⟨aE,(aA:Int).toNat*3+2,none⟩=some (.bool ((rd_T104 aB aA).f2)):=aR 2 _ rfl;have cJ:wr.frozen? ⟨aE,(aA:Int).toNat*3,none⟩=false:=aO 0;have cL:wr.frozen? ⟨aE,(aA:Int).toNat*3+1,none⟩=false:=aO 1;have cF:wr.frozen? ⟨aE,(aA:Int).toNat*3+2,none⟩=false:=aO 2;clear bX aR aO cH;replace p5:=eq_true p5;replace q5:=eq_true q5;have cG:=A' (show Kd.R k104 104 wr w0.heap.size (fun k_=>(P0_ k_∨w.heap.size≤k_)) (.slice (some ⟨aE,0,none⟩) aB.length bF) aB from(qR HO_0.out));obtain⟨dL,bK,cC,bA,bM⟩:=Kd.R_elem cG.out z104 (aA:Int) (oD' qA) (by have h_:(aA:Int)<((aB.length:Int):Int):=oD' qA;first|exact h_|(have e_:=(Kd.R_reads' HO_0.out).1;omega)|simpa using h_);obtain rfl:=k104_openM cC;have bR:=Kd.R_seg cG.out (aA:Int) (oD' qA) (by have h_:(aA:Int)<((aB.length:Int):Int):=oD' qA;first|exact h_|(have e_:=(Kd.R_reads' HO_0.out).1;omega)|simpa using h_) (seg:=[.int .i64 aC]) (j:=0) bK bA (show 1≤3 from by decide) (x':=(⟨aC,(rd_T104 aB aA).f1,(rd_T104 aB aA).f2⟩:S104)) (k104_mkM _ _ _ (⟨aC,(rd_T104 aB aA).f1,(rd_T104 aB aA).f2⟩:S104)) (fun _ hk=>hk);have bH:=bA 0 _ rfl;(try simp only[show(k104).sz=3 from rfl,Nat.mul_one,Nat.add_zero]at bH);have bJ:=bM 0;(try simp only[show(k104).sz=3 from rfl,Nat.mul_one,Nat.add_zero]at bJ);clear bK bA bM cC;go_wp2_with (first|((with_reducible refine gate_store (t:=2) (p:=16) rfl ?_);refine store_event (t:=2) (p:=16) (v:=?vo_w10) (w1:=(wr.setCell ⟨aE,(aA:Int).toNat*3,none⟩ (.int .i64 aC))) ?hg ?ho ?hn ?hr ?_;(case ho=>rfl);(case hg=>rfl);(case hn=>rfl);(case hr=>first|(go_simp;done)|(go_simp;rfl));intro aJ hw;have hg:wr.grownBy aJ (some aE):=(by rw[hw];exact bR.2);have hp_:Kd.R k104 104 aJ w0.heap.size (fun k_=>(P0_ k_∨w.heap.size≤k_)) (.slice (some ⟨aE,0,none⟩) aB.length bF) aF:=(by rw[hw,bG.out];exact bR.1);clear bR;have n0_:=A' (hp_);have n1_:=A' ((by rw[hw];exact E' (HB.out) bT.out:Below w0.heap.size w0 aJ));have n2_:=A' (Kept.of_grown (S:=(fun k_=>P0_ k_)) hg (by repeat(first|(with_reducible first|exact HK.out|apply Kept.alloc|apply Kept.drewN|apply Kept.drew)|exact HK.out)) (fun k_ e_=>(HO_0.out.1 k_ e_)));clear HO_0;clear HB;clear HK;have HO_0:=n0_;have HB:=n1_;have HK:=n2_;clear n0_ n1_ n2_;clear hg hw hp_;have p6:0≤(aA:Int):=oD' qA;have q6:(aA:Int)<((aB.length:Int):Int):=oD' qA;obtain⟨dN,bV,cS,aN,aP⟩:=Kd.R_elem HO_0.out z104 (aA:Int) p6 q6;obtain rfl:=k104_openM cS;have cD:aJ.cell? ⟨aE,(aA:Int).toNat*3,none⟩=some (.int .i64 ((rd_T104 aF aA).f0)):=aN 0 _ rfl;have cP:aJ.cell? ⟨aE,(aA:Int).toNat*3+1,none⟩=some (.int .i64 ((rd_T104 aF aA).f1)):=aN 1 _ rfl;have cW:aJ.cell? ⟨aE,(aA:Int).toNat*3+2,none⟩=some (.bool ((rd_T104 aF aA).f2)):=aN 2 _ rfl;have cN:aJ.frozen? ⟨aE,(aA:Int).toNat*3,none⟩=false:=aP 0;have cU:aJ.frozen? ⟨aE,(aA:Int).toNat*3+1,none⟩=false:=aP 1;have bZ:aJ.frozen? ⟨aE,(aA:Int).toNat*3+2,none⟩=false:=aP 2;clear bV aN aP cS;replace p6:=eq_true p6;replace q6:=eq_true q6;have bO:=A' (show Kd.R k104 104 aJ w0.heap.size (fun k_=>(P0_ k_∨w.heap.size≤k_)) (.slice (some ⟨aE,0,none⟩) aB.length bF) aF from(qR HO_0.out));obtain⟨dD,aW,bQ,aL,aT⟩:=Kd.R_elem bO.out z104 (aA:Int) (oD' qA) (by have h_:(aA:Int)<((aB.length:Int):Int):=oD' qA;first|exact h_|(have e_:=(Kd.R_reads' HO_0.out).1;omega)|simpa using h_);obtain rfl:=k104_openM bQ;have bB:=Kd.R_seg bO.out (aA:Int) (oD' qA) (by have h_:(aA:Int)<((aB.length:Int):Int):=oD' qA;first|exact h_|(have e_:=(Kd.R_reads' HO_0.out).1;omega)|simpa using h_) (seg:=[.int .i64 (wrap64 (aC+1))]) (j:=1) aW aL (show 2≤3 from by decide) (x':=(⟨(rd_T104 aF aA).f0,wrap64 (aC+1),(rd_T104 aF aA).f2⟩:S104)) (k104_mkM _ _ _ (⟨(rd_T104 aF aA).f0,wrap64 (aC+1),(rd_T104 aF aA).f2⟩:S104)) (fun _ hk=>hk);have bE:=aL 1 _ rfl;(try simp only[show(k104).sz=3 from rfl,Nat.mul_one,Nat.add_zero]at bE);have aZ:=aT 1;(try simp only[show(k104).sz=3 from rfl,Nat.mul_one,Nat.add_zero]at aZ);clear aW aL aT bQ)|((with_reducible refine gate_store (t:=2) (p:=23) rfl ?_);refine store_event (t:=2) (p:=23) (v:=?vo_w12) (w1:=(aJ.setCell ⟨aE,(aA:Int).toNat*3+1,none⟩ (.int .i64 (wrap64 (aC+1))))) ?hg ?ho ?hn ?hr ?_;(case ho=>rfl);(case hg=>rfl);(case hn=>rfl);(case hr=>first|(go_simp;done)|(go_simp;rfl));intro aK hw;have hg:aJ.grownBy aK (some aE):=(by rw[hw];exact bB.2);have hp_:Kd.R k104 104 aK w0.heap.size (fun k_=>(P0_ k_∨w.heap.size≤k_)) (.slice (some ⟨aE,0,none⟩) aB.length bF) aD:=(by rw[hw,bI.out];exact bB.1);clear bB;have n0_:=A' (hp_);have n1_:=A' ((by rw[hw];exact E' (HB.out) bT.out:Below w0.heap.size w0 aK));have n2_:=A' (Kept.of_grown (S:=(fun k_=>P0_ k_)) hg (by repeat(first|(with_reducible first|exact HK.out|apply Kept.alloc|apply Kept.drewN|apply Kept.drew)|exact HK.out)) (fun k_ e_=>(HO_0.out.1 k_ e_)));clear HO_0;clear HB;clear HK;have HO_0:=n0_;have HB:=n1_;have HK:=n2_;clear n0_ n1_ n2_;clear hg hw hp_;have p7:0≤(aA:Int):=oD' qA;have q7:(aA:Int)<((aB.length:Int):Int):=oD' qA;obtain⟨dI,bU,cI,aQ,aS⟩:=Kd.R_elem HO_0.out z104 (aA:Int) p7 q7;obtain rfl:=k104_openM cI;have cB:aK.cell? ⟨aE,(aA:Int).toNat*3,none⟩=some (.int .i64 ((rd_T104 aD aA).f0)):=aQ 0 _ rfl;have cT:aK.cell? ⟨aE,(aA:Int).toNat*3+1,none⟩=some (.int .i64 ((rd_T104 aD aA).f1)):=aQ 1 _ rfl;have cE:aK.cell? ⟨aE,(aA:Int).toNat*3+2,none⟩=some (.bool ((rd_T104 aD aA).f2)):=aQ 2 _ rfl;have cR:aK.frozen? ⟨aE,(aA:Int).toNat*3,none⟩=false:=aS 0;have cV:aK.frozen? ⟨aE,(aA:Int).toNat*3+1,none⟩=false:=aS 1;have cK:aK.frozen? ⟨aE,(aA:Int).toNat*3+2,none⟩=false:=aS 2;clear bU aQ aS cI;replace p7:=eq_true p7;replace q7:=eq_true q7;have bN:=A' (show Kd.R k104 104 aK w0.heap.size (fun k_=>(P0_ k_∨w.heap.size≤k_)) (.slice (some ⟨aE,0,none⟩) aB.length bF) aD from(qR HO_0.out));obtain⟨dC,aU,bL,aM,aV⟩:=Kd.R_elem bN.out z104 (aA:Int) (oD' qA) (by have h_:(aA:Int)<((aB.length:Int):Int):=oD' qA;first|exact h_|(have e_:=(Kd.R_reads' HO_0.out).1;omega)|simpa using h_);obtain rfl:=k104_openM bL;have aY:=Kd.R_seg bN.out (aA:Int) (oD' qA) (by have h_:(aA:Int)<((aB.length:Int):Int):=oD' qA;first|exact h_|(have e_:=(Kd.R_reads' HO_0.out).1;omega)|simpa using h_) (seg:=[.bool ((Int.tmod (wrap64 ((wrap64 (aC+1))+1)) 3) == 0)]) (j:=2) aU aM (show 3≤3 from by decide) (x':=(⟨(rd_T104 aD aA).f0,(rd_T104 aD aA).f1,((Int.tmod (wrap64 ((wrap64 (aC+1))+1)) 3) == 0)⟩:S104)) (k104_mkM _ _ _ (⟨(rd_T104 aD aA).f0,(rd_T104 aD aA).f1,((Int.tmod (wrap64 ((wrap64 (aC+1))+1)) 3) == 0)⟩:S104)) (fun _ hk=>hk);have bC:=aM 2 _ rfl;(try simp only[show(k104).sz=3 from rfl,Nat.mul_one,Nat.add_zero]at bC);have aX:=aV 2;(try simp only[show(k104).sz=3 from rfl,Nat.mul_one,Nat.add_zero]at aX);clear aU aM aV bL)|((with_reducible refine gate_store (t:=4) (p:=32) rfl ?_);refine store_event (t:=4) (p:=32) (v:=?vo_w14) (w1:=(aK.setCell ⟨aE,(aA:Int).toNat*3+2,none⟩ (.bool ((Int.tmod (wrap64 ((wrap64 (aC+1))+1)) 3) == 0)))) ?hg ?ho ?hn ?hr ?_;(case ho=>rfl);(case hg=>rfl);(case hn=>rfl);(case hr=>first|(go_simp;done)|(go_simp;rfl));intro bS hw;have hg:aK.grownBy bS (some aE):=(by rw[hw];exact aY.2);have hp_:Kd.R k104 104 bS w0.heap.size (fun k_=>(P0_ k_∨w.heap.size≤k_)) (.slice (some ⟨aE,0,none⟩) aB.length bF) bD:=(by rw[hw,bP.out];exact aY.1);clear aY;have n0_:=A' (hp_);have n1_:=A' ((by rw[hw];exact E' (HB.out) bT.out:Below w0.heap.size w0 bS));have n2_:=A' (Kept.of_grown (S:=(fun k_=>P0_ k_)) hg (by repeat(first|(with_reducible first|exact HK.out|apply Kept.alloc|apply Kept.drewN|apply Kept.drew)|exact HK.out)) (fun k_ e_=>(HO_0.out.1 k_ e_)));clear HO_0;clear HB;clear HK;have HO_0:=n0_;have HB:=n1_;have HK:=n2_;clear n0_ n1_ n2_;clear hg hw hp_))
     go_roundg k1
     case measure=>have:=cY.out;omega
     case rel=>exact⟨(bD),(wrap64 ((wrap64 ((wrap64 (aC+1))+1))+1)),(wrap64 (aA+1)),qS,qS,H',⟨by have:=cY.out;omega⟩,⟨qR HO_0.out⟩,⟨by repeat(first|(with_reducible first|exact HK.out|apply Kept.alloc|apply Kept.drewN|apply Kept.drew)|exact HK.out)⟩,⟨qK0 HB.out⟩⟩
    ·rw[if_neg c4]at H;exact absurd H (by simp)
   ·rw[if_neg c3]at H;have c3b0:decide (aA<(aB.length:Int))=false:=dF' c3;clear c3;simp only[Option.some.injEq,Prod.mk.injEq]at H;obtain⟨rfl,rfl⟩:=H;obtain⟨dH,dF,bW⟩:=Kd.R_slice HO_0.out;subst bW;go_wp2;go_ret;exact⟨qE,qR HO_0.out,qK0 HB.out,by repeat(first|(with_reducible first|exact HK.out|apply Kept.alloc|apply Kept.drewN|apply Kept.drew)|exact HK.out)⟩
/-! ### laws_markFrame: function 22 -/
def laws_markFrame.f (k:Nat) (aC:List (S90)) (aD:List (S104)) (a1:Int):Option (Int×(List (S90))×(List (S104))):=(laws_markKnotS.f k aC a1).bind fun aA=>((laws_markBarS.f k aD aA.1).bind fun aB=>(some (aB.1,aA.2,aB.2)))
theorem laws_markFrame.mono: ∀a0 a1 a2 k,LeO (laws_markFrame.f k a0 a1 a2) (laws_markFrame.f (k+1) a0 a1 a2):=by
 intro a0 a1 a2 k
 unfold laws_markFrame.f
 repeat' first
  |(with_reducible exact laws_markBarS.mono _ _ _)
  |(with_reducible exact laws_markKnotS.mono _ _ _)
  |(with_reducible exact LeO.refl _)
  |(with_reducible exact LeO.none _)
  |(with_reducible refine LeO.ite ?_ ?_)
  |(with_reducible refine LeO.bind ?_ (fun _=>?_))
  |exact laws_markBarS.mono _ _ _
  |exact laws_markKnotS.mono _ _ _
  |exact LeO.none _
  |refine LeO.ite ?_ ?_
  |refine LeO.bind ?_ (fun _=>?_)
set_option maxHeartbeats 8000000 in
set_option maxRecDepth 100000 in
theorem laws_markFrame.calls (k:Nat) (P0_0_:Nat→Prop) (u9000_:Value) (aE:List (S90)) (P0_1_:Nat→Prop) (u9001_:Value) (aD:List (S104)) (a1:Int) (r1:Int) (r2:List (S90)) (r3:List (S104)) (w0 w:World) (hB:Below w0.heap.size w0 w) (aT:Kd.R k90 90 w w0.heap.size P0_0_ u9000_ aE) (aW:Kd.R k104 104 w w0.heap.size P0_1_ u9001_ aD) (h:laws_markFrame.f k aE aD a1=some (r1,r2,r3)):
 Calls Try.prog 22 #[.agg #[u9000_,u9001_],.int .i64 a1] w fun e w'=>e= .returned (.int .i64 r1)∧Kd.R k90 90 w' w0.heap.size (fun k_=>((P0_0_ k_∨P0_1_ k_)∨w.heap.size≤k_)) u9000_ r2∧Kd.R k104 104 w' w0.heap.size (fun k_=>((P0_0_ k_∨P0_1_ k_)∨w.heap.size≤k_)) u9001_ r3∧Below w0.heap.size w0 w'∧Kept w w' (fun k_=>P0_0_ k_∨P0_1_ k_):=by
 have bI:=Try.underlying33;have aB:=A' (show Kd.R k90 90 w w0.heap.size (fun k_=>((P0_0_ k_∨P0_1_ k_)∨w.heap.size≤k_)) u9000_ aE from Q' aT (fun k_ hk=>(.inl (.inl hk))));have aC:=A' (show Kd.R k104 104 w w0.heap.size (fun k_=>((P0_0_ k_∨P0_1_ k_)∨w.heap.size≤k_)) u9001_ aD from Q' aW (fun k_ hk=>(.inl (.inr hk))));have HK:=A' (Kept.refl w (fun k_=>P0_0_ k_∨P0_1_ k_));have bL:=A' hB.size;have HB:=A' hB;clear hB;have H:((laws_markKnotS.f k aE a1).bind fun aM=>((laws_markBarS.f k aD aM.1).bind fun aG=>(some (aG.1,aM.2,aG.2))))=some (r1,r2,r3):=h;clear h;replace H:=Option.bind_eq_some_iff.mp H;obtain⟨⟨aL,aN⟩,bG,H⟩:=H;replace H:((laws_markBarS.f k aD aL).bind fun aG=>(some (aG.1,aN,aG.2)))=some (r1,r2,r3):=H;have A3:=A' bG;clear bG;replace H:=Option.bind_eq_some_iff.mp H;obtain⟨⟨aV,aU⟩,bF,H⟩:=H;replace H:(some (aV,aN,aU))=some (r1,r2,r3):=H;have A4:=A' bF;clear bF;simp only[Option.some.injEq,Prod.mk.injEq]at H;obtain⟨rfl,rfl,rfl⟩:=H;obtain⟨aO,aQ,bH⟩:=Kd.R_slice aB.out;subst bH;obtain⟨aP,aR,bJ⟩:=Kd.R_slice aC.out;subst bJ;go_enter Try.func22,Try.ntmps22;go_wp2_with (first|((with_reducible refine gate_dst (N:=2) rfl ?_);refine box_event ?hg (N:=2) ?hd (cs:=#[.slice aO aE.length aQ,.slice aP aD.length aR]) (t:=33) ?hr ?_;(case hd=>rfl);(case hg=>rfl);(case hr=>first|(go_simp;done)|(go_simp;rfl));intro aF hg w7 hbox hb;have n0_:=A' (L' (qR aB.out) hb);have n1_:=A' (L' (qR aC.out) hb);have n2_:=A' (Kept.below (S:=(fun k_=>P0_0_ k_∨P0_1_ k_)) (by repeat(first|(with_reducible first|exact HK.out|apply Kept.alloc|apply Kept.drewN|apply Kept.drew)|exact HK.out)) hb);have n3_:=A' (W' (qK0 HB.out) hb);have n4_:=A' (hbox);have n5_:=A' ((by rw[hg];exact(by first|exact HK.out.1|exact(show Kept w _ (fun k_=>P0_0_ k_∨P0_1_ k_)from by repeat(first|(with_reducible first|exact HK.out|apply Kept.alloc|apply Kept.drewN|apply Kept.drew)|exact HK.out)).1):w.heap.size≤aF));have n6_:=A' ((by rw[hg];exact(V' (qK0 HB.out)):w0.heap.size≤aF));clear aB;clear aC;clear HK;clear HB;have aB:=n0_;have aC:=n1_;have HK:=n2_;have HB:=n3_;have aA:=n4_;have aH:=n5_;have aI:=n6_;clear n0_ n1_ n2_ n3_ n4_ n5_ n6_;clear hb hbox hg;have bD:w7.cell? ⟨aF,0,none⟩=some (.slice aO aE.length aQ):=(N' aA.out 0).trans rfl;have bC:w7.cell? ⟨aF,1,none⟩=some (.slice aP aD.length aR):=(N' aA.out 1).trans rfl;have bB:=Y' aA.out 0;have bE:=Y' aA.out 1)|((with_reducible refine gate_callee (f:=66) rfl ?_);refine goesL_ (some 8) rfl rfl Try.func66 (by kernel_rfl) rfl #[.slice aO aE.length aQ,.int .i64 a1] rfl (by(try simp only[List.map_toArray,List.map_cons,List.map_nil]);first|done|rfl|(simp only[List.length_drop,List.length_take];rfl)) ?_;(with_reducible refine(laws_markKnotS.calls k (fun k_=>some k_=(.slice aO aE.length aQ:Value).ownBlock) (.slice aO aE.length aQ) aE a1 aL aN w0 _ ?aJ ?aK A3.out).mono ?_);(case aJ=>repeat(first|(with_reducible first|exact HB.out|apply K'|apply F'|apply J'|refine E' ?_ aI.out)|exact HB.out));(case aK=>exact Kd.R_tight rfl aB.out);rintro e w9 ⟨rfl,aS,hb,hkp⟩;refine⟨_,rfl,?_⟩;have n0_:=A' (Kd.R_reok rfl aS (fun k_ e_=>aB.out.1 k_ e_));have n1_:=A' (Q' (ok':=fun k_=>((P0_0_ k_∨P0_1_ k_)∨w.heap.size≤k_)) (Kd.R_keptB ((Kd.R_apart' aC.out (Kd.R_typed aB.out) (by decide))) hkp (fun k_ hk_ hs_=>(hk_.2) hs_)) (fun k_ hk_=>hk_.1.1));have n2_:=A' (blk_kept (qB aA.out) hkp (fun hs_=>(fun e_=>(Kd.R_ne aB.out aA.out (by decide)) e_) hs_));have n3_:=A' (Kept.then_ (S:=(fun k_=>P0_0_ k_∨P0_1_ k_)) (by repeat(first|(with_reducible first|exact HK.out|apply Kept.alloc|apply Kept.drewN|apply Kept.drew|refine Kept.setCell ?_ (.inr aH.out) _)|exact HK.out)) hkp (fun k_ hs_=>(fun e_=>(aB.out.1 k_ e_.symm)) hs_));have n4_:=A' (hb);clear aB;clear aC;clear aA;clear HK;clear HB;have aB:=n0_;have aC:=n1_;have aA:=n2_;have HK:=n3_;have HB:=n4_;clear n0_ n1_ n2_ n3_ n4_;(try clear hb);(try clear hkp);(try clear aS);have aZ:w9.cell? ⟨aF,0,none⟩=some (.slice aO aE.length aQ):=(N' aA.out 0).trans rfl;have aX:w9.cell? ⟨aF,1,none⟩=some (.slice aP aD.length aR):=(N' aA.out 1).trans rfl;have aY:=Y' aA.out 0;have bA:=Y' aA.out 1)|((with_reducible refine gate_callee (f:=67) rfl ?_);refine goesL_ (some 12) rfl rfl Try.func67 (by kernel_rfl) rfl #[.slice aP aD.length aR,.int .i64 aL] rfl (by(try simp only[List.map_toArray,List.map_cons,List.map_nil]);first|done|rfl|(simp only[List.length_drop,List.length_take];rfl)) ?_;(with_reducible refine(laws_markBarS.calls k (fun k_=>some k_=(.slice aP aD.length aR:Value).ownBlock) (.slice aP aD.length aR) aD aL aV aU w0 _ ?aJ ?aK A4.out).mono ?_);(case aJ=>repeat(first|(with_reducible first|exact HB.out|apply K'|apply F'|apply J'|refine E' ?_ aI.out)|exact HB.out));(case aK=>exact Kd.R_tight rfl aC.out);rintro e bK ⟨rfl,aS,hb,hkp⟩;refine⟨_,rfl,?_⟩;have n0_:=A' (Q' (ok':=fun k_=>((P0_0_ k_∨P0_1_ k_)∨w.heap.size≤k_)) (Kd.R_keptB ((Kd.R_apart' aB.out (Kd.R_typed aC.out) (by decide))) hkp (fun k_ hk_ hs_=>(hk_.2) hs_)) (fun k_ hk_=>hk_.1.1));have n1_:=A' (Kd.R_reok rfl aS (fun k_ e_=>aC.out.1 k_ e_));have n2_:=A' (blk_kept (qB aA.out) hkp (fun hs_=>(fun e_=>(Kd.R_ne aC.out aA.out (by decide)) e_) hs_));have n3_:=A' (Kept.then_ (S:=(fun k_=>P0_0_ k_∨P0_1_ k_)) (by repeat(first|(with_reducible first|exact HK.out|apply Kept.alloc|apply Kept.drewN|apply Kept.drew|refine Kept.setCell ?_ (.inr aH.out) _)|exact HK.out)) hkp (fun k_ hs_=>(fun e_=>(aC.out.1 k_ e_.symm)) hs_));have n4_:=A' (hb);clear aB;clear aC;clear aA;clear HK;clear HB;have aB:=n0_;have aC:=n1_;have aA:=n2_;have HK:=n3_;have HB:=n4_;clear n0_ n1_ n2_ n3_ n4_;(try clear hb);(try clear hkp);(try clear aS)));go_ret;exact⟨qE,qR aB.out,qR aC.out,qK1 HB.out aI.out,by repeat(first|(with_reducible first|exact HK.out|apply Kept.alloc|apply Kept.drewN|apply Kept.drew|refine Kept.setCell ?_ (.inr aH.out) _)|exact HK.out)⟩
/-! ### laws_markPullS: function 23 -/
def laws_markPullS.l0:Nat→List (S76)→Int→Int→Option (Int×(List (S76)))
 |0,_,_,_=>none
 |k+1,x0,x1,x5=>if x5<(x0.length:Int)then(if 0≤x5 then((some (x0.set (x5:Int).toNat (⟨x1,(rd_T76 x0 x5).f1⟩:S76):List (S76))).bind fun aA=>(laws_markPullS.l0 k (aA.set (x5:Int).toNat (⟨(rd_T76 aA x5).f0,wrap64 (x1+1)⟩:S76)) (wrap64 ((wrap64 (x1+1))+1)) (wrap64 (x5+1))))else(none))else(some (x1,x0))
def laws_markPullS.f (k:Nat) (l0:List (S76)) (a1:Int):Option (Int×(List (S76))):=laws_markPullS.l0 k l0 a1 0
theorem laws_markPullS.mono_l: ∀k,(∀y0 y1 y2,LeO (laws_markPullS.l0 k y0 y1 y2) (laws_markPullS.l0 (k+1) y0 y1 y2))
 |0=>fun _ _ _ r h=>by simp[laws_markPullS.l0]at h
 |k+1=>by
  have aA:=laws_markPullS.mono_l k
  ·intro y0 y1 y2
   unfold laws_markPullS.l0
   repeat' first
   |(with_reducible exact aA _ _ _)
   |(with_reducible exact LeO.refl _)
   |(with_reducible exact LeO.none _)
   |(with_reducible refine LeO.ite ?_ ?_)
   |(with_reducible refine LeO.bind ?_ (fun _=>?_))
   |exact aA _ _ _
   |exact LeO.none _
   |refine LeO.ite ?_ ?_
   |refine LeO.bind ?_ (fun _=>?_)
theorem laws_markPullS.mono: ∀a0 a1 k,LeO (laws_markPullS.f k a0 a1) (laws_markPullS.f (k+1) a0 a1):=by
 intro a0 a1 k
 have aA:=laws_markPullS.mono_l k
 unfold laws_markPullS.f
 repeat' first
  |(with_reducible exact aA _ _ _)
  |(with_reducible exact LeO.refl _)
  |(with_reducible exact LeO.none _)
  |(with_reducible refine LeO.ite ?_ ?_)
  |(with_reducible refine LeO.bind ?_ (fun _=>?_))
  |exact aA _ _ _
  |exact LeO.none _
  |refine LeO.ite ?_ ?_
  |refine LeO.bind ?_ (fun _=>?_)
set_option maxHeartbeats 8000000 in
set_option maxRecDepth 100000 in
theorem laws_markPullS.calls (k:Nat) (P0_:Nat→Prop) (u9000_:Value) (l0:List (S76)) (a1:Int) (r1:Int) (r2:List (S76)) (w0 w:World) (hB:Below w0.heap.size w0 w) (bZ:Kd.R k76 76 w w0.heap.size P0_ u9000_ l0) (h:laws_markPullS.f k l0 a1=some (r1,r2)):
 Calls Try.prog 23 #[u9000_,.int .i64 a1] w fun e w'=>e= .returned (.int .i64 r1)∧Kd.R k76 76 w' w0.heap.size (fun k_=>(P0_ k_∨w.heap.size≤k_)) u9000_ r2∧Below w0.heap.size w0 w'∧Kept w w' (fun k_=>P0_ k_):=by
 have cC:=A' (show Kd.R k76 76 w w0.heap.size (fun k_=>(P0_ k_∨w.heap.size≤k_)) u9000_ l0 from Q' bZ (fun k_ hk=>(.inl hk)));have HK:=A' (Kept.refl w (fun k_=>P0_ k_));have cG:=A' hB.size;have HB:=A' hB;clear hB;have H:(laws_markPullS.l0 k l0 a1 0)=some (r1,r2):=h;clear h;have H':=A' H;clear H;go_enter Try.func23,Try.ntmps23;go_wp2
 go_loopg [1,5] k (fun kq v1 v5 w'=>∃(aB:List (S76)) (aC:Int) (aA:Int),v1= .int .i64 aC∧v5= .int .i64 aA∧Aside0 (laws_markPullS.l0 kq aB aC aA=some (r1,r2))∧Aside0 (kq≤k)∧Aside0 (Kd.R k76 76 w' w0.heap.size (fun k_=>(P0_ k_∨w.heap.size≤k_)) u9000_ aB)∧Aside0 (Kept w w' (fun k_=>P0_ k_))∧Aside0 (Below w0.heap.size w0 w'))
 case atStart=>exact⟨(l0),(a1),(0),qS,qS,H',⟨Nat.le_refl _⟩,⟨qR cC.out⟩,⟨by repeat(first|(with_reducible first|exact HK.out|apply Kept.alloc|apply Kept.drewN|apply Kept.drew)|exact HK.out)⟩,⟨qK0 HB.out⟩⟩
 case round=>
  clear H';try clear c2
  try clear p2
  obtain⟨aB,aC,aA,rfl,rfl,HA,bX,HO_0,HK,HB⟩:=hrel
  cases gk with
  |zero=>exact absurd HA.out (by simp[laws_markPullS.l0])
  |succ k1=>
   have H:=HA.out;clear HA;simp only[laws_markPullS.l0]at H
   by_cases c3:aA<(aB.length:Int)
   ·rw[if_pos c3]at H;have c3b0:decide (aA<(aB.length:Int))=true:=dT' c3;clear c3
    by_cases c4:0≤aA
    ·rw[if_pos c4]at H;have c4b0:decide (0≤aA)=true:=dT' c4;clear c4;obtain⟨aD,aG⟩: ∃y_:List (S76),y_=(aB.set (aA:Int).toNat (⟨aC,(rd_T76 aB aA).f1⟩:S76)):=⟨_,rfl⟩
     replace H:(laws_markPullS.l0 k1 (aD.set (aA:Int).toNat (⟨(rd_T76 aD aA).f0,wrap64 (aC+1)⟩:S76)) (wrap64 ((wrap64 (aC+1))+1)) (wrap64 (aA+1)))=some (r1,r2):=by first|(rw[aG];with_reducible exact H)|(have H2_:=(Option.bind_some _ _).symm.trans H;rw[aG];with_reducible exact H2_)|(have H2_:=(Option.bind_some _ _).symm.trans H;with_reducible exact H2_)|with_reducible exact H|(rw[aG];exact H)|exact H
     have aZ:=A' aG;clear aG;obtain⟨aL,aF⟩: ∃y_:List (S76),y_=(aD.set (aA:Int).toNat (⟨(rd_T76 aD aA).f0,wrap64 (aC+1)⟩:S76)):=⟨_,rfl⟩
     replace H:(laws_markPullS.l0 k1 aL (wrap64 ((wrap64 (aC+1))+1)) (wrap64 (aA+1)))=some (r1,r2):=by first|(rw[aF];with_reducible exact H)|(have H2_:=(Option.bind_some _ _).symm.trans H;rw[aF];with_reducible exact H2_)|(have H2_:=(Option.bind_some _ _).symm.trans H;with_reducible exact H2_)|with_reducible exact H|(rw[aF];exact H)|exact H
     have aU:=A' aF;clear aF;have H':=A' H;clear H;obtain⟨cI,bB,cD⟩:=Kd.R_slice HO_0.out;subst cD;have p5:0≤(aA:Int):=oD' qA;have q5:(aA:Int)<((aB.length:Int):Int):=oD' qA;obtain⟨aE,cJ,bP,bN,cE,cH,bS⟩:=Kd.R_form HO_0.out (by omega);(first|cases bP|(injection bP with ea_ en_ ec_;(first|subst ea_|(injection ea_ with ea_;subst ea_));subst ec_;clear en_));have bJ:=A' bN;have cM:=A' bS;clear bN cE bS;have bW:=A' (show(P0_ aE∨w.heap.size≤aE)from(HO_0.out.1 _ rfl));obtain⟨cN,bF,bK,aR,aM⟩:=Kd.R_elem HO_0.out z76 (aA:Int) p5 q5;obtain rfl:=k76_openM bK;have bY:wr.cell? ⟨aE,(aA:Int).toNat*2,none⟩=some (.int .i64 ((rd_T76 aB aA).f0)):=aR 0 _ rfl;have bH:wr.cell? ⟨aE,(aA:Int).toNat*2+1,none⟩=some (.int .i64 ((rd_T76 aB aA).f1)):=aR 1 _ rfl;have bL:wr.frozen? ⟨aE,(aA:Int).toNat*2,none⟩=false:=aM 0;have bM:wr.frozen? ⟨aE,(aA:Int).toNat*2+1,none⟩=false:=aM 1;clear bF aR aM bK;replace p5:=eq_true p5;replace q5:=eq_true q5;have bR:=A' (show Kd.R k76 76 wr w0.heap.size (fun k_=>(P0_ k_∨w.heap.size≤k_)) (.slice (some ⟨aE,0,none⟩) aB.length bB) aB from(qR HO_0.out));obtain⟨cL,aX,bU,aO,aT⟩:=Kd.R_elem bR.out z76 (aA:Int) (oD' qA) (by have h_:(aA:Int)<((aB.length:Int):Int):=oD' qA;first|exact h_|(have e_:=(Kd.R_reads' HO_0.out).1;omega)|simpa using h_);obtain rfl:=k76_openM bU;have bG:=Kd.R_seg bR.out (aA:Int) (oD' qA) (by have h_:(aA:Int)<((aB.length:Int):Int):=oD' qA;first|exact h_|(have e_:=(Kd.R_reads' HO_0.out).1;omega)|simpa using h_) (seg:=[.int .i64 aC]) (j:=0) aX aO (show 1≤2 from by decide) (x':=(⟨aC,(rd_T76 aB aA).f1⟩:S76)) (k76_mkM _ _ _ (⟨aC,(rd_T76 aB aA).f1⟩:S76)) (fun _ hk=>hk);have aW:=aO 0 _ rfl;(try simp only[show(k76).sz=2 from rfl,Nat.mul_one,Nat.add_zero]at aW);have aY:=aT 0;(try simp only[show(k76).sz=2 from rfl,Nat.mul_one,Nat.add_zero]at aY);clear aX aO aT bU;go_wp2_with (first|((with_reducible refine gate_store (t:=2) (p:=16) rfl ?_);refine store_event (t:=2) (p:=16) (v:=?vo_w9) (w1:=(wr.setCell ⟨aE,(aA:Int).toNat*2,none⟩ (.int .i64 aC))) ?hg ?ho ?hn ?hr ?_;(case ho=>rfl);(case hg=>rfl);(case hn=>rfl);(case hr=>first|(go_simp;done)|(go_simp;rfl));intro w9 hw;have hg:wr.grownBy w9 (some aE):=(by rw[hw];exact bG.2);have hp_:Kd.R k76 76 w9 w0.heap.size (fun k_=>(P0_ k_∨w.heap.size≤k_)) (.slice (some ⟨aE,0,none⟩) aB.length bB) aD:=(by rw[hw,aZ.out];exact bG.1);clear bG;have n0_:=A' (hp_);have n1_:=A' ((by rw[hw];exact E' (HB.out) bJ.out:Below w0.heap.size w0 w9));have n2_:=A' (Kept.of_grown (S:=(fun k_=>P0_ k_)) hg (by repeat(first|(with_reducible first|exact HK.out|apply Kept.alloc|apply Kept.drewN|apply Kept.drew)|exact HK.out)) (fun k_ e_=>(HO_0.out.1 k_ e_)));clear HO_0;clear HB;clear HK;have HO_0:=n0_;have HB:=n1_;have HK:=n2_;clear n0_ n1_ n2_;clear hg hw hp_;have p6:0≤(aA:Int):=oD' qA;have q6:(aA:Int)<((aB.length:Int):Int):=oD' qA;obtain⟨cK,bD,bT,aK,aP⟩:=Kd.R_elem HO_0.out z76 (aA:Int) p6 q6;obtain rfl:=k76_openM bT;have bI:w9.cell? ⟨aE,(aA:Int).toNat*2,none⟩=some (.int .i64 ((rd_T76 aD aA).f0)):=aK 0 _ rfl;have bQ:w9.cell? ⟨aE,(aA:Int).toNat*2+1,none⟩=some (.int .i64 ((rd_T76 aD aA).f1)):=aK 1 _ rfl;have bO:w9.frozen? ⟨aE,(aA:Int).toNat*2,none⟩=false:=aP 0;have bV:w9.frozen? ⟨aE,(aA:Int).toNat*2+1,none⟩=false:=aP 1;clear bD aK aP bT;replace p6:=eq_true p6;replace q6:=eq_true q6;have aV:=A' (show Kd.R k76 76 w9 w0.heap.size (fun k_=>(P0_ k_∨w.heap.size≤k_)) (.slice (some ⟨aE,0,none⟩) aB.length bB) aD from(qR HO_0.out));obtain⟨cA,aI,bA,aH,aJ⟩:=Kd.R_elem aV.out z76 (aA:Int) (oD' qA) (by have h_:(aA:Int)<((aB.length:Int):Int):=oD' qA;first|exact h_|(have e_:=(Kd.R_reads' HO_0.out).1;omega)|simpa using h_);obtain rfl:=k76_openM bA;have aQ:=Kd.R_seg aV.out (aA:Int) (oD' qA) (by have h_:(aA:Int)<((aB.length:Int):Int):=oD' qA;first|exact h_|(have e_:=(Kd.R_reads' HO_0.out).1;omega)|simpa using h_) (seg:=[.int .i64 (wrap64 (aC+1))]) (j:=1) aI aH (show 2≤2 from by decide) (x':=(⟨(rd_T76 aD aA).f0,wrap64 (aC+1)⟩:S76)) (k76_mkM _ _ _ (⟨(rd_T76 aD aA).f0,wrap64 (aC+1)⟩:S76)) (fun _ hk=>hk);have aS:=aH 1 _ rfl;(try simp only[show(k76).sz=2 from rfl,Nat.mul_one,Nat.add_zero]at aS);have aN:=aJ 1;(try simp only[show(k76).sz=2 from rfl,Nat.mul_one,Nat.add_zero]at aN);clear aI aH aJ bA)|((with_reducible refine gate_store (t:=2) (p:=23) rfl ?_);refine store_event (t:=2) (p:=23) (v:=?vo_w11) (w1:=(w9.setCell ⟨aE,(aA:Int).toNat*2+1,none⟩ (.int .i64 (wrap64 (aC+1))))) ?hg ?ho ?hn ?hr ?_;(case ho=>rfl);(case hg=>rfl);(case hn=>rfl);(case hr=>first|(go_simp;done)|(go_simp;rfl));intro bE hw;have hg:w9.grownBy bE (some aE):=(by rw[hw];exact aQ.2);have hp_:Kd.R k76 76 bE w0.heap.size (fun k_=>(P0_ k_∨w.heap.size≤k_)) (.slice (some ⟨aE,0,none⟩) aB.length bB) aL:=(by rw[hw,aU.out];exact aQ.1);clear aQ;have n0_:=A' (hp_);have n1_:=A' ((by rw[hw];exact E' (HB.out) bJ.out:Below w0.heap.size w0 bE));have n2_:=A' (Kept.of_grown (S:=(fun k_=>P0_ k_)) hg (by repeat(first|(with_reducible first|exact HK.out|apply Kept.alloc|apply Kept.drewN|apply Kept.drew)|exact HK.out)) (fun k_ e_=>(HO_0.out.1 k_ e_)));clear HO_0;clear HB;clear HK;have HO_0:=n0_;have HB:=n1_;have HK:=n2_;clear n0_ n1_ n2_;clear hg hw hp_))
     go_roundg k1
     case measure=>have:=bX.out;omega
     case rel=>exact⟨(aL),(wrap64 ((wrap64 (aC+1))+1)),(wrap64 (aA+1)),qS,qS,H',⟨by have:=bX.out;omega⟩,⟨qR HO_0.out⟩,⟨by repeat(first|(with_reducible first|exact HK.out|apply Kept.alloc|apply Kept.drewN|apply Kept.drew)|exact HK.out)⟩,⟨qK0 HB.out⟩⟩
    ·rw[if_neg c4]at H;exact absurd H (by simp)
   ·rw[if_neg c3]at H;have c3b0:decide (aA<(aB.length:Int))=false:=dF' c3;clear c3;simp only[Option.some.injEq,Prod.mk.injEq]at H;obtain⟨rfl,rfl⟩:=H;obtain⟨cF,cB,bC⟩:=Kd.R_slice HO_0.out;subst bC;go_wp2;go_ret;exact⟨qE,qR HO_0.out,qK0 HB.out,by repeat(first|(with_reducible first|exact HK.out|apply Kept.alloc|apply Kept.drewN|apply Kept.drew)|exact HK.out)⟩
/-! ### laws_markInt64S: function 24 -/
def laws_markInt64S.l0:Nat→List Int→Int→Int→Option (Int×List Int)
 |0,_,_,_=>none
 |k+1,x0,x1,x5=>if x5<(x0.length:Int)then(if 0≤x5 then(laws_markInt64S.l0 k (x0.set (x5:Int).toNat x1) (wrap64 (x1+1)) (wrap64 (x5+1)))else(none))else(some (x1,x0))
def laws_markInt64S.f (k:Nat) (l0:List Int) (a1:Int):Option (Int×List Int):=laws_markInt64S.l0 k l0 a1 0
theorem laws_markInt64S.mono_l: ∀k,(∀y0 y1 y2,LeO (laws_markInt64S.l0 k y0 y1 y2) (laws_markInt64S.l0 (k+1) y0 y1 y2))
 |0=>fun _ _ _ r h=>by simp[laws_markInt64S.l0]at h
 |k+1=>by
  have aA:=laws_markInt64S.mono_l k
  ·intro y0 y1 y2
   unfold laws_markInt64S.l0
   repeat' first
   |(with_reducible exact aA _ _ _)
   |(with_reducible exact LeO.refl _)
   |(with_reducible exact LeO.none _)
   |(with_reducible refine LeO.ite ?_ ?_)
   |(with_reducible refine LeO.bind ?_ (fun _=>?_))
   |exact aA _ _ _
   |exact LeO.none _
   |refine LeO.ite ?_ ?_
   |refine LeO.bind ?_ (fun _=>?_)
theorem laws_markInt64S.mono: ∀a0 a1 k,LeO (laws_markInt64S.f k a0 a1) (laws_markInt64S.f (k+1) a0 a1):=by
 intro a0 a1 k
 have aA:=laws_markInt64S.mono_l k
 unfold laws_markInt64S.f
 repeat' first
  |(with_reducible exact aA _ _ _)
  |(with_reducible exact LeO.refl _)
  |(with_reducible exact LeO.none _)
  |(with_reducible refine LeO.ite ?_ ?_)
  |(with_reducible refine LeO.bind ?_ (fun _=>?_))
  |exact aA _ _ _
  |exact LeO.none _
  |refine LeO.ite ?_ ?_
  |refine LeO.bind ?_ (fun _=>?_)
set_option maxHeartbeats 8000000 in
set_option maxRecDepth 100000 in
theorem laws_markInt64S.calls (k:Nat) (P0_:Nat→Prop) (u9000_:Value) (l0:List Int) (a1:Int) (r1:Int) (r2:List Int) (w0 w:World) (hB:Below w0.heap.size w0 w) (aP:Kd.R (Kd.int .i64) 2 w w0.heap.size P0_ u9000_ l0) (h:laws_markInt64S.f k l0 a1=some (r1,r2)):
 Calls Try.prog 24 #[u9000_,.int .i64 a1] w fun e w'=>e= .returned (.int .i64 r1)∧Kd.R (Kd.int .i64) 2 w' w0.heap.size (fun k_=>(P0_ k_∨w.heap.size≤k_)) u9000_ r2∧Below w0.heap.size w0 w'∧Kept w w' (fun k_=>P0_ k_):=by
 have aV:=A' (show Kd.R (Kd.int .i64) 2 w w0.heap.size (fun k_=>(P0_ k_∨w.heap.size≤k_)) u9000_ l0 from Q' aP (fun k_ hk=>(.inl hk)));have HK:=A' (Kept.refl w (fun k_=>P0_ k_));have bB:=A' hB.size;have HB:=A' hB;clear hB;have H:(laws_markInt64S.l0 k l0 a1 0)=some (r1,r2):=h;clear h;have H':=A' H;clear H;go_enter Try.func24,Try.ntmps24;go_wp2
 go_loopg [1,5] k (fun kq v1 v5 w'=>∃(aB:List Int) (aC:Int) (aA:Int),v1= .int .i64 aC∧v5= .int .i64 aA∧Aside0 (laws_markInt64S.l0 kq aB aC aA=some (r1,r2))∧Aside0 (kq≤k)∧Aside0 (Kd.R (Kd.int .i64) 2 w' w0.heap.size (fun k_=>(P0_ k_∨w.heap.size≤k_)) u9000_ aB)∧Aside0 (Kept w w' (fun k_=>P0_ k_))∧Aside0 (Below w0.heap.size w0 w'))
 case atStart=>exact⟨(l0),(a1),(0),qS,qS,H',⟨Nat.le_refl _⟩,⟨qR aV.out⟩,⟨by repeat(first|(with_reducible first|exact HK.out|apply Kept.alloc|apply Kept.drewN|apply Kept.drew)|exact HK.out)⟩,⟨qK0 HB.out⟩⟩
 case round=>
  clear H';try clear c2
  try clear p2
  obtain⟨aB,aC,aA,rfl,rfl,HA,aL,HO_0,HK,HB⟩:=hrel
  cases gk with
  |zero=>exact absurd HA.out (by simp[laws_markInt64S.l0])
  |succ k1=>
   have H:=HA.out;clear HA;simp only[laws_markInt64S.l0]at H
   by_cases c3:aA<(aB.length:Int)
   ·rw[if_pos c3]at H;have c3b0:decide (aA<(aB.length:Int))=true:=dT' c3;clear c3
    by_cases c4:0≤aA
    ·rw[if_pos c4]at H;have c4b0:decide (0≤aA)=true:=dT' c4;clear c4;obtain⟨aE,aD⟩: ∃y_:List Int,y_=(aB.set (aA:Int).toNat aC):=⟨_,rfl⟩
     replace H:(laws_markInt64S.l0 k1 aE (wrap64 (aC+1)) (wrap64 (aA+1)))=some (r1,r2):=by first|(rw[aD];with_reducible exact H)|(have H2_:=(Option.bind_some _ _).symm.trans H;rw[aD];with_reducible exact H2_)|(have H2_:=(Option.bind_some _ _).symm.trans H;with_reducible exact H2_)|with_reducible exact H|(rw[aD];exact H)|exact H
     have aF:=A' aD;clear aD;have H':=A' H;clear H;obtain⟨aX,aS,aU⟩:=Kd.R_slice HO_0.out;subst aU;have p5:0≤(aA:Int):=oD' qA;have q5:(aA:Int)<((aB.length:Int):Int):=oD' qA;obtain⟨aG,aY,aI,aO,aR,aW,aJ⟩:=Kd.R_form HO_0.out (by omega);(first|cases aI|(injection aI with ea_ en_ ec_;(first|subst ea_|(injection ea_ with ea_;subst ea_));subst ec_;clear en_));have aQ:=A' aO;have bA:=A' aJ;clear aO aR aJ;have aK:=A' (show(P0_ aG∨w.heap.size≤aG)from(HO_0.out.1 _ rfl));obtain⟨aN,aM⟩:=Kd.R_celln 0 HO_0.out (aA:Int) p5 q5;replace p5:=eq_true p5;replace q5:=eq_true q5;have aH:=Kd.R_putg HO_0.out (aA:Int) aC;go_wp2_with (first|((with_reducible refine gate_store (t:=2) (p:=15) rfl ?_);refine store_event (t:=2) (p:=15) (v:=?vo_w8) (w1:=(wr.setCell ⟨aG,(aA:Int).toNat,none⟩ (.int .i64 aC))) ?hg ?ho ?hn ?hr ?_;(case ho=>rfl);(case hg=>rfl);(case hn=>rfl);(case hr=>first|(go_simp;done)|(go_simp;rfl));intro w8 hw;have hg:wr.grownBy w8 (some aG):=(by rw[hw];exact aH.2);have hp_:Kd.R (Kd.int .i64) 2 w8 w0.heap.size (fun k_=>(P0_ k_∨w.heap.size≤k_)) (.slice (some ⟨aG,0,none⟩) aB.length aS) aE:=(by rw[hw,aF.out];exact aH.1);clear aH;have n0_:=A' (hp_);have n1_:=A' ((by rw[hw];exact E' (HB.out) aQ.out:Below w0.heap.size w0 w8));have n2_:=A' (Kept.of_grown (S:=(fun k_=>P0_ k_)) hg (by repeat(first|(with_reducible first|exact HK.out|apply Kept.alloc|apply Kept.drewN|apply Kept.drew)|exact HK.out)) (fun k_ e_=>(HO_0.out.1 k_ e_)));clear HO_0;clear HB;clear HK;have HO_0:=n0_;have HB:=n1_;have HK:=n2_;clear n0_ n1_ n2_;clear hg hw hp_))
     go_roundg k1
     case measure=>have:=aL.out;omega
     case rel=>exact⟨(aE),(wrap64 (aC+1)),(wrap64 (aA+1)),qS,qS,H',⟨by have:=aL.out;omega⟩,⟨qR HO_0.out⟩,⟨by repeat(first|(with_reducible first|exact HK.out|apply Kept.alloc|apply Kept.drewN|apply Kept.drew)|exact HK.out)⟩,⟨qK0 HB.out⟩⟩
    ·rw[if_neg c4]at H;exact absurd H (by simp)
   ·rw[if_neg c3]at H;have c3b0:decide (aA<(aB.length:Int))=false:=dF' c3;clear c3;simp only[Option.some.injEq,Prod.mk.injEq]at H;obtain⟨rfl,rfl⟩:=H;obtain⟨aZ,bC,aT⟩:=Kd.R_slice HO_0.out;subst aT;go_wp2;go_ret;exact⟨qE,qR HO_0.out,qK0 HB.out,by repeat(first|(with_reducible first|exact HK.out|apply Kept.alloc|apply Kept.drewN|apply Kept.drew)|exact HK.out)⟩
/-! ### laws_markDensities: function 25 -/
def laws_markDensities.f (k:Nat) (aB:List Int) (aC:Int) (a1:Int):Option (Int×List Int):=(laws_markInt64S.f k aB a1).bind fun aA=>(some (aA.1,aA.2))
theorem laws_markDensities.mono: ∀a0 a1 a2 k,LeO (laws_markDensities.f k a0 a1 a2) (laws_markDensities.f (k+1) a0 a1 a2):=by
 intro a0 a1 a2 k
 unfold laws_markDensities.f
 repeat' first
  |(with_reducible exact laws_markInt64S.mono _ _ _)
  |(with_reducible exact LeO.refl _)
  |(with_reducible exact LeO.none _)
  |(with_reducible refine LeO.ite ?_ ?_)
  |(with_reducible refine LeO.bind ?_ (fun _=>?_))
  |exact laws_markInt64S.mono _ _ _
  |exact LeO.none _
  |refine LeO.ite ?_ ?_
  |refine LeO.bind ?_ (fun _=>?_)
set_option maxHeartbeats 8000000 in
set_option maxRecDepth 100000 in
theorem laws_markDensities.calls (k:Nat) (P0_0_:Nat→Prop) (u9000_:Value) (aC:List Int) (aE:Int) (a1:Int) (r1:Int) (r2:List Int) (w0 w:World) (hB:Below w0.heap.size w0 w) (aL:Kd.R (Kd.int .i64) 2 w w0.heap.size P0_0_ u9000_ aC) (h:laws_markDensities.f k aC aE a1=some (r1,r2)):
 Calls Try.prog 25 #[.agg #[u9000_,.int .i64 aE],.int .i64 a1] w fun e w'=>e= .returned (.int .i64 r1)∧Kd.R (Kd.int .i64) 2 w' w0.heap.size (fun k_=>(P0_0_ k_∨w.heap.size≤k_)) u9000_ r2∧Below w0.heap.size w0 w'∧Kept w w' (fun k_=>P0_0_ k_):=by
 have aV:=Try.underlying44;have aA:=A' (show Kd.R (Kd.int .i64) 2 w w0.heap.size (fun k_=>(P0_0_ k_∨w.heap.size≤k_)) u9000_ aC from Q' aL (fun k_ hk=>(.inl hk)));have HK:=A' (Kept.refl w (fun k_=>P0_0_ k_));have aX:=A' hB.size;have HB:=A' hB;clear hB;have H:((laws_markInt64S.f k aC a1).bind fun aH=>(some (aH.1,aH.2)))=some (r1,r2):=h;clear h;replace H:=Option.bind_eq_some_iff.mp H;obtain⟨⟨aO,aJ⟩,aU,H⟩:=H;replace H:(some (aO,aJ))=some (r1,r2):=H;have A3:=A' aU;clear aU;simp only[Option.some.injEq,Prod.mk.injEq]at H;obtain⟨rfl,rfl⟩:=H;obtain⟨aI,aK,aW⟩:=Kd.R_slice aA.out;subst aW;go_enter Try.func25,Try.ntmps25;go_wp2_with (first|((with_reducible refine gate_dst (N:=2) rfl ?_);refine box_event ?hg (N:=2) ?hd (cs:=#[.slice aI aC.length aK,.int .i64 aE]) (t:=44) ?hr ?_;(case hd=>rfl);(case hg=>rfl);(case hr=>first|(go_simp;done)|(go_simp;rfl));intro aD hg w5 hbox hb;have n0_:=A' (L' (qR aA.out) hb);have n1_:=A' (Kept.below (S:=(fun k_=>P0_0_ k_)) (by repeat(first|(with_reducible first|exact HK.out|apply Kept.alloc|apply Kept.drewN|apply Kept.drew)|exact HK.out)) hb);have n2_:=A' (W' (qK0 HB.out) hb);have n3_:=A' (hbox);have n4_:=A' ((by rw[hg];exact(by first|exact HK.out.1|exact(show Kept w _ (fun k_=>P0_0_ k_)from by repeat(first|(with_reducible first|exact HK.out|apply Kept.alloc|apply Kept.drewN|apply Kept.drew)|exact HK.out)).1):w.heap.size≤aD));have n5_:=A' ((by rw[hg];exact(V' (qK0 HB.out)):w0.heap.size≤aD));clear aA;clear HK;clear HB;have aA:=n0_;have HK:=n1_;have HB:=n2_;have aB:=n3_;have aF:=n4_;have aG:=n5_;clear n0_ n1_ n2_ n3_ n4_ n5_;clear hb hbox hg;have aS:w5.cell? ⟨aD,0,none⟩=some (.slice aI aC.length aK):=(N' aB.out 0).trans rfl;have aQ:w5.cell? ⟨aD,1,none⟩=some (.int .i64 aE):=(N' aB.out 1).trans rfl;have aP:=Y' aB.out 0;have aR:=Y' aB.out 1)|((with_reducible refine gate_callee (f:=24) rfl ?_);refine goesL_ (some 8) rfl rfl Try.func24 (by kernel_rfl) rfl #[.slice aI aC.length aK,.int .i64 a1] rfl (by(try simp only[List.map_toArray,List.map_cons,List.map_nil]);first|done|rfl|(simp only[List.length_drop,List.length_take];rfl)) ?_;(with_reducible refine(laws_markInt64S.calls k (fun k_=>some k_=(.slice aI aC.length aK:Value).ownBlock) (.slice aI aC.length aK) aC a1 aO aJ w0 _ ?aM ?aN A3.out).mono ?_);(case aM=>repeat(first|(with_reducible first|exact HB.out|apply K'|apply F'|apply J'|refine E' ?_ aG.out)|exact HB.out));(case aN=>exact Kd.R_tight rfl aA.out);rintro e w7 ⟨rfl,aT,hb,hkp⟩;refine⟨_,rfl,?_⟩;have n0_:=A' (Kd.R_reok rfl aT (fun k_ e_=>aA.out.1 k_ e_));have n1_:=A' (blk_kept (qB aB.out) hkp (fun hs_=>(fun e_=>(Kd.R_ne aA.out aB.out (by decide)) e_) hs_));have n2_:=A' (Kept.then_ (S:=(fun k_=>P0_0_ k_)) (by repeat(first|(with_reducible first|exact HK.out|apply Kept.alloc|apply Kept.drewN|apply Kept.drew|refine Kept.setCell ?_ (.inr aF.out) _)|exact HK.out)) hkp (fun k_ hs_=>(fun e_=>(aA.out.1 k_ e_.symm)) hs_));have n3_:=A' (hb);clear aA;clear aB;clear HK;clear HB;have aA:=n0_;have aB:=n1_;have HK:=n2_;have HB:=n3_;clear n0_ n1_ n2_ n3_;(try clear hb);(try clear hkp);(try clear aT)));go_ret;exact⟨qE,qR aA.out,qK1 HB.out aG.out,by repeat(first|(with_reducible first|exact HK.out|apply Kept.alloc|apply Kept.drewN|apply Kept.drew|refine Kept.setCell ?_ (.inr aF.out) _)|exact HK.out)⟩
/-! ### laws_heldInt64S: function 68 -/
def laws_heldInt64S.l0:Nat→List Int→Int→Int→Option (Int)
 |0,_,_,_=>none
 |k+1,x0,x1,x5=>if x5<(x0.length:Int)then(if 0≤x5 then(if(rd x0 x5)=x1 then(laws_heldInt64S.l0 k x0 (wrap64 (x1+1)) (wrap64 (x5+1)))else(some (-1)))else(none))else(some x1)
def laws_heldInt64S.f (k:Nat) (l0:List Int) (a1:Int):Option (Int):=laws_heldInt64S.l0 k l0 a1 0
theorem laws_heldInt64S.mono_l: ∀k,(∀y0 y1 y2,LeO (laws_heldInt64S.l0 k y0 y1 y2) (laws_heldInt64S.l0 (k+1) y0 y1 y2))
 |0=>fun _ _ _ r h=>by simp[laws_heldInt64S.l0]at h
 |k+1=>by
  have aA:=laws_heldInt64S.mono_l k
  ·intro y0 y1 y2
   unfold laws_heldInt64S.l0
   repeat' first
   |(with_reducible exact aA _ _ _)
   |(with_reducible exact LeO.refl _)
   |(with_reducible exact LeO.none _)
   |(with_reducible refine LeO.ite ?_ ?_)
   |(with_reducible refine LeO.bind ?_ (fun _=>?_))
   |exact aA _ _ _
   |exact LeO.none _
   |refine LeO.ite ?_ ?_
   |refine LeO.bind ?_ (fun _=>?_)
theorem laws_heldInt64S.mono: ∀a0 a1 k,LeO (laws_heldInt64S.f k a0 a1) (laws_heldInt64S.f (k+1) a0 a1):=by
 intro a0 a1 k
 have aA:=laws_heldInt64S.mono_l k
 unfold laws_heldInt64S.f
 repeat' first
  |(with_reducible exact aA _ _ _)
  |(with_reducible exact LeO.refl _)
  |(with_reducible exact LeO.none _)
  |(with_reducible refine LeO.ite ?_ ?_)
  |(with_reducible refine LeO.bind ?_ (fun _=>?_))
  |exact aA _ _ _
  |exact LeO.none _
  |refine LeO.ite ?_ ?_
  |refine LeO.bind ?_ (fun _=>?_)
set_option maxHeartbeats 8000000 in
set_option maxRecDepth 100000 in
theorem laws_heldInt64S.calls (k:Nat) (A0:Option Addr) (c0:Nat) (l0:List Int) (a1:Int) (r:Int) (w:World) (aK:Kd.C (Kd.int .i64) w A0 l0.length l0) (aJ:l0.length≤c0) (h:laws_heldInt64S.f k l0 a1=some r):
 Calls Try.prog 68 #[.slice A0 l0.length c0,.int .i64 a1] w fun e w'=>e= .returned (.int .i64 r)∧Drawn0 w w':=by
 have aH:=A' aK;have aL:=A' aJ;clear aK aJ;have H:(laws_heldInt64S.l0 k l0 a1 0)=some r:=h;clear h;have H':=A' H;clear H;go_enter Try.func68,Try.ntmps68;go_wp2
 go_loopg [1,5] k (fun kq v1 v5 w'=>∃(aB:Int) (aA:Int),v1= .int .i64 aB∧v5= .int .i64 aA∧Aside0 (laws_heldInt64S.l0 kq l0 aB aA=some r)∧Aside0 (kq≤k)∧Drawn0 w w')
 case atStart=>exact⟨(a1),(0),qS,qS,H',⟨Nat.le_refl _⟩,by repeat(first|exact Drawn0.refl _|apply Drawn0.step)⟩
 case round=>
  clear H';try clear p2
  obtain⟨aB,aA,rfl,rfl,HA,aI,⟨m1,rfl⟩⟩:=hrel
  cases gk with
  |zero=>exact absurd HA.out (by simp[laws_heldInt64S.l0])
  |succ k1=>
   have H:=HA.out;clear HA;simp only[laws_heldInt64S.l0]at H
   by_cases c3:aA<(l0.length:Int)
   ·rw[if_pos c3]at H;have c3b0:decide (aA<(l0.length:Int))=true:=dT' c3;clear c3
    by_cases c4:0≤aA
    ·rw[if_pos c4]at H;have c4b0:decide (0≤aA)=true:=dT' c4;clear c4
     by_cases c5:(rd l0 aA)=aB
     ·rw[if_pos c5]at H;have c5b0:((rd l0 aA) == aB)=true:=beq_iff_eq.mpr c5;have c5b1:((rd l0 aA) != aB)=false:=bne_eq_false_iff_eq.mpr c5;clear c5;have H':=A' H;clear H;have aD:0≤(aA:Int):=oD' qA;have aC:aA<(l0.length:Int):=oD' qA;obtain⟨aG,aF,aE⟩:=Kd.at_int aH.out aA aD aC
      cases aF
      replace aD:=eq_true aD;replace aC:=eq_true aC;go_wp2
      go_roundg k1
      case measure=>have:=aI.out;omega
      case rel=>exact⟨(wrap64 (aB+1)),(wrap64 (aA+1)),qS,qS,H',⟨by have:=aI.out;omega⟩,by repeat(first|exact Drawn0.refl _|apply Drawn0.step)⟩
     ·rw[if_neg c5]at H;have c5b0:((rd l0 aA) == aB)=false:=beq_eq_false_iff_ne.mpr c5;have c5b1:((rd l0 aA) != aB)=true:=bne_iff_ne.mpr c5;obtain rfl:=Option.some.inj H;have aD:0≤(aA:Int):=oD' qA;have aC:aA<(l0.length:Int):=oD' qA;obtain⟨aG,aF,aE⟩:=Kd.at_int aH.out aA aD aC
      cases aF
      replace aD:=eq_true aD;replace aC:=eq_true aC;go_wp2;go_ret;exact⟨by first|rfl|(simp;done)|(simp[*];done),by repeat(first|exact Drawn0.refl _|apply Drawn0.step)⟩
    ·rw[if_neg c4]at H;exact absurd H (by simp)
   ·rw[if_neg c3]at H;have c3b0:decide (aA<(l0.length:Int))=false:=dF' c3;clear c3;obtain rfl:=Option.some.inj H;go_wp2;go_ret;exact⟨by first|rfl|(simp;done)|(simp[*];done),by repeat(first|exact Drawn0.refl _|apply Drawn0.step)⟩
/-! ### laws_heldDensities: function 26 -/
def laws_heldDensities.f (k:Nat) (aB:List Int) (aC:Int) (a1:Int):Option (Int):=(laws_heldInt64S.f k aB a1).bind fun aA=>(if aA<0 then(some (-1))else(some aA))
theorem laws_heldDensities.mono: ∀a0 a1 a2 k,LeO (laws_heldDensities.f k a0 a1 a2) (laws_heldDensities.f (k+1) a0 a1 a2):=by
 intro a0 a1 a2 k
 unfold laws_heldDensities.f
 repeat' first
  |(with_reducible exact laws_heldInt64S.mono _ _ _)
  |(with_reducible exact LeO.refl _)
  |(with_reducible exact LeO.none _)
  |(with_reducible refine LeO.ite ?_ ?_)
  |(with_reducible refine LeO.bind ?_ (fun _=>?_))
  |exact laws_heldInt64S.mono _ _ _
  |exact LeO.none _
  |refine LeO.ite ?_ ?_
  |refine LeO.bind ?_ (fun _=>?_)
set_option maxHeartbeats 8000000 in
set_option maxRecDepth 100000 in
theorem laws_heldDensities.calls (k:Nat) (aE:Option Addr) (aF:Nat) (aC:List Int) (aG:Int) (a1:Int) (r:Int) (w:World) (aN:Kd.C (Kd.int .i64) w aE aC.length aC) (aL:aC.length≤aF) (h:laws_heldDensities.f k aC aG a1=some r):
 Calls Try.prog 26 #[.agg #[.slice aE aC.length aF,.int .i64 aG],.int .i64 a1] w fun e w'=>e= .returned (.int .i64 r)∧Below w.heap.size w w':=by
 have aY:=Try.underlying44;have aK:=A' aN;have aM:=A' aL;clear aN aL;have HB:=A' (Below.refl w.heap.size w);have H:((laws_heldInt64S.f k aC a1).bind fun aD=>(if aD<0 then(some (-1))else(some aD)))=some r:=h;clear h;replace H:=Option.bind_eq_some_iff.mp H;obtain⟨aD,aX,H⟩:=H;replace H:(if aD<0 then(some (-1))else(some aD))=some r:=H;have A3:=A' aX;clear aX
 by_cases c4:aD<0
 ·rw[if_pos c4]at H;have c4b0:decide (aD<0)=true:=dT' c4;clear c4;obtain rfl:=Option.some.inj H;go_enter Try.func26,Try.ntmps26;go_wp2_with (first|((with_reducible refine gate_dst (N:=2) rfl ?_);refine box_event ?hg (N:=2) ?hd (cs:=#[.slice aE aC.length aF,.int .i64 aG]) (t:=44) ?hr ?_;(case hd=>rfl);(case hg=>rfl);(case hr=>first|(go_simp;done)|(go_simp;rfl));intro aB hg w5 hbox hb;have n0_:=A' (W' (qK0 HB.out) hb);have n1_:=A' (hbox);have n2_:=A' ((by rw[hg];exact(V' (qK0 HB.out)):w.heap.size≤aB));have n3_:=A' ((by rw[hg];exact(V' (qK0 HB.out)):w.heap.size≤aB));clear HB;have HB:=n0_;have aA:=n1_;have aO:=n2_;have aH:=n3_;clear n0_ n1_ n2_ n3_;clear hb hbox hg;have aV:w5.cell? ⟨aB,0,none⟩=some (.slice aE aC.length aF):=(N' aA.out 0).trans rfl;have aT:w5.cell? ⟨aB,1,none⟩=some (.int .i64 aG):=(N' aA.out 1).trans rfl;have aP:=Y' aA.out 0;have aU:=Y' aA.out 1)|((with_reducible refine gate_callee (f:=68) rfl ?_);refine goesL_ (some 8) rfl rfl Try.func68 (by kernel_rfl) rfl #[.slice aE aC.length aF,.int .i64 a1] rfl (by(try simp only[List.map_toArray,List.map_cons,List.map_nil]);first|done|rfl|(simp only[List.length_drop,List.length_take];rfl)) ?_;(with_reducible refine(laws_heldInt64S.calls k _ _ aC a1 aD _ ?aI ?aJ A3.out).mono ?_);(case aI=>exact qT (X' aK.out HB.out));(case aJ=>exact aM.out);rintro e w' ⟨rfl,⟨nd,rfl⟩⟩;refine⟨_,rfl,?_⟩));go_ret;exact⟨qE,qK1 HB.out aH.out⟩
 ·rw[if_neg c4]at H;have c4b0:decide (aD<0)=false:=dF' c4;clear c4;obtain rfl:=Option.some.inj H;go_enter Try.func26,Try.ntmps26;go_wp2_with (first|((with_reducible refine gate_dst (N:=2) rfl ?_);refine box_event ?hg (N:=2) ?hd (cs:=#[.slice aE aC.length aF,.int .i64 aG]) (t:=44) ?hr ?_;(case hd=>rfl);(case hg=>rfl);(case hr=>first|(go_simp;done)|(go_simp;rfl));intro aB hg w7 hbox hb;have n0_:=A' (W' (qK0 HB.out) hb);have n1_:=A' (hbox);have n2_:=A' ((by rw[hg];exact(V' (qK0 HB.out)):w.heap.size≤aB));have n3_:=A' ((by rw[hg];exact(V' (qK0 HB.out)):w.heap.size≤aB));clear HB;have HB:=n0_;have aA:=n1_;have aO:=n2_;have aH:=n3_;clear n0_ n1_ n2_ n3_;clear hb hbox hg;have aS:w7.cell? ⟨aB,0,none⟩=some (.slice aE aC.length aF):=(N' aA.out 0).trans rfl;have aR:w7.cell? ⟨aB,1,none⟩=some (.int .i64 aG):=(N' aA.out 1).trans rfl;have aQ:=Y' aA.out 0;have aW:=Y' aA.out 1)|((with_reducible refine gate_callee (f:=68) rfl ?_);refine goesL_ (some 8) rfl rfl Try.func68 (by kernel_rfl) rfl #[.slice aE aC.length aF,.int .i64 a1] rfl (by(try simp only[List.map_toArray,List.map_cons,List.map_nil]);first|done|rfl|(simp only[List.length_drop,List.length_take];rfl)) ?_;(with_reducible refine(laws_heldInt64S.calls k _ _ aC a1 aD _ ?aI ?aJ A3.out).mono ?_);(case aI=>exact qT (X' aK.out HB.out));(case aJ=>exact aM.out);rintro e w' ⟨rfl,⟨nd,rfl⟩⟩;refine⟨_,rfl,?_⟩));go_ret;exact⟨qE,qK1 HB.out aH.out⟩
end Go.Proofs.Ytebbdadpgapobaa.HEl
