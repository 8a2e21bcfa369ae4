-- Written by a program for this claim (the functions that the statement reaches, and that the program's code comes to them).
import Derived.Test.YtebbdadpgapobaaHElx0
namespace Go.Proofs.Ytebbdadpgapobaa.HEl
open Go.RowKit Go.Proofs.YtebbdadpgapobaaW.PrintWords Go.Proofs.YtebbdadpgapobaaW.PrintLast Go.Proofs.YtebbdadpgapobaaW.PrintMore
attribute [local go_sem] max2_int min2_int max_two min_two max_three min_three max_four min_four
set_option linter.unusedVariables false
set_option linter.unusedSimpArgs false
/-! ### spec_l09Table: function 89 (by hand) -/
def spec_l09Table.f:Option Bool:=none
def frU (ks:List S90) (v:Nat):List Nat:=(List.range v).filter fun i=>!(rd_T90 ks (i:Int)).f2
def frI (ks:List S90):List Nat:=frU ks ks.length
theorem frU_succ (ks:List S90) (v:Nat):frU ks (v+1)=frU ks v ++ if(rd_T90 ks (v:Int)).f2=true then []else [v]:=by
 unfold frU
 rw[List.range_succ,List.filter_append]
 congr 1
 cases h:(rd_T90 ks (v:Int)).f2 <;> simp[List.filter,h]
theorem frU_pre (ks:List S90) (v:Nat): ∀d,∃r,frU ks (v+d)=frU ks v ++ r
 |0=>⟨[],by simp⟩
 |d+1=>by
  obtain⟨r,hr⟩:=frU_pre ks v d
  rw[← Nat.add_assoc,frU_succ,hr,List.append_assoc]
  exact⟨_,rfl⟩
theorem frI_at (ks:List S90) {v:Nat} (hv:v<ks.length) (hf:(rd_T90 ks (v:Int)).f2=false):(frI ks).getD (frU ks v).length 0=v:=by
 obtain⟨r,hr⟩:=frU_pre ks (v+1) (ks.length - (v+1))
 rw[show v+1+(ks.length - (v+1))=ks.length by omega,frU_succ,hf,if_neg (by simp)]at hr
 unfold frI
 rw[hr,List.append_assoc,List.getD_eq_getElem?_getD,List.getElem?_append_right (Nat.le_refl _),Nat.sub_self]
 rfl
theorem frU_le (ks:List S90) (v:Nat):(frU ks v).length≤v:=by
 have:=List.length_filter_le (fun i=>!(rd_T90 ks ((i:Nat):Int)).f2) (List.range v)
 simpa [frU] using this
def colE (ks:List S90) (s:Nat) (v:Int) (b:S104):Int:=
 if v=b.f1 then -(if s=0 then(rd_T90 ks b.f1).f0 - (rd_T90 ks b.f0).f0 else(rd_T90 ks b.f1).f1 - (rd_T90 ks b.f0).f1)
 else if v=b.f0 then(if s=0 then(rd_T90 ks b.f1).f0 - (rd_T90 ks b.f0).f0 else(rd_T90 ks b.f1).f1 - (rd_T90 ks b.f0).f1)
 else 0
def tblM (ks:List S90) (bs:List S104) (ld:List S76) (bars:List Int) (i j:Nat):Int:=
 if j<bars.length then colE ks (i % 2) (((frI ks).getD (i / 2) 0:Nat):Int) (rd_T104 bs (rd bars (j:Int)))
 else if i % 2=0 then -(rd_T76 ld (((frI ks).getD (i / 2) 0:Nat):Int)).f0 else -(rd_T76 ld (((frI ks).getD (i / 2) 0:Nat):Int)).f1
theorem row_at (f:Nat→Int) (m:Nat) (z:Int) (j:Nat) (h:j<m+1):rd ((List.range m).map f ++ [z]) (j:Int)=if j<m then f j else z:=by
 unfold rd
 rw[Int.toNat_natCast,List.getD_eq_getElem?_getD]
 by_cases g:j<m
 ·rw[List.getElem?_append_left (by simpa using g),if_pos g];simp[g]
 ·rw[List.getElem?_append_right (by simp;omega),if_neg g,show j=m by omega];simp
theorem tblM_row {ks:List S90} (bs:List S104) (ld:List S76) (bars:List Int) {v:Nat} (hv:v<ks.length) (hf:(rd_T90 ks (v:Int)).f2=false) (s j:Nat) (hs:s<2):
 tblM ks bs ld bars (2*(frU ks v).length+s) j=if j<bars.length then colE ks s (v:Int) (rd_T104 bs (rd bars (j:Int)))else if s=0 then -(rd_T76 ld (v:Int)).f0 else -(rd_T76 ld (v:Int)).f1:=by
 unfold tblM
 rw[show(2*(frU ks v).length+s) % 2=s by omega,show(2*(frU ks v).length+s) / 2=(frU ks v).length by omega,frI_at ks hv hf]
structure TOk (ks:List S90) (bs:List S104) (ld:List S76) (bars:List Int):Prop where
 k8:ks.length≤8
 b8:bars.length≤8
 bn:bs.length≤1000
 fr:(frI ks).length≤3
 knots: ∀k∈ks,(0≤k.f0∧k.f0≤12)∧(0≤k.f1∧k.f1≤12)
 bb: ∀b∈bs,0≤b.f0∧b.f0<b.f1∧b.f1<(ks.length:Int)
 idx: ∀x∈bars,0≤x∧x<(bs.length:Int)
 ll:ld.length=ks.length
 lb: ∀p∈ld,(-100≤p.f0∧p.f0≤100)∧(-100≤p.f1∧p.f1≤100)
theorem rdK_mem {ks:List S90} {a:Int} (h0:0≤a) (h1:a<(ks.length:Int)):rd_T90 ks a∈ks:=by
 unfold rd_T90;rw[List.getD_eq_getElem?_getD,List.getElem?_eq_getElem (by omega)];exact List.getElem_mem _
theorem rdB_mem {ks:List S104} {a:Int} (h0:0≤a) (h1:a<(ks.length:Int)):rd_T104 ks a∈ks:=by
 unfold rd_T104;rw[List.getD_eq_getElem?_getD,List.getElem?_eq_getElem (by omega)];exact List.getElem_mem _
theorem rdL_mem {ks:List S76} {a:Int} (h0:0≤a) (h1:a<(ks.length:Int)):rd_T76 ks a∈ks:=by
 unfold rd_T76;rw[List.getD_eq_getElem?_getD,List.getElem?_eq_getElem (by omega)];exact List.getElem_mem _
theorem rd_memI {xs:List Int} {a:Int} (h0:0≤a) (h1:a<(xs.length:Int)):rd xs a∈xs:=by
 unfold rd;rw[List.getD_eq_getElem?_getD,List.getElem?_eq_getElem (by omega)];exact List.getElem_mem _
open Go.Proofs.Ytebbdadpgapobaa.Red in
def TabPost (W:World) (ks:List S90) (bs:List S104) (ld:List S76) (bars:List Int) (e:Ending) (w':World):Prop:=
 ∃(gm g cap:Nat) (A:Option Addr) (b cc:Nat→Nat),e= .returned (.pointer (some ⟨gm,0,none⟩))∧w'.heap[gm]? =some (.cells #[.slice A (2*(frI ks).length) cap,.int .i64 (bars.length:Int)] 137 (0,0))∧
  (0<2*(frI ks).length→A=some ⟨g,0,none⟩)∧TB 26 2 W.heap.size g (2*(frI ks).length) (bars.length+1) (bars.length+1) b cc (tblM ks bs ld bars) w'∧Below W.heap.size W w'
instance decTOk (ks:List S90) (bs:List S104) (ld:List S76) (bars:List Int):Decidable (TOk ks bs ld bars):=
 decidable_of_iff (ks.length≤8∧bars.length≤8∧bs.length≤1000∧(frI ks).length≤3∧(∀k∈ks,(0≤k.f0∧k.f0≤12)∧(0≤k.f1∧k.f1≤12))∧(∀b∈bs,0≤b.f0∧b.f0<b.f1∧b.f1<(ks.length:Int))∧(∀x∈bars,0≤x∧x<(bs.length:Int))∧ld.length=ks.length∧(∀p∈ld,(-100≤p.f0∧p.f0≤100)∧(-100≤p.f1∧p.f1≤100)))
  ⟨fun⟨a,b,c,d,e,f,g,h,i⟩=>⟨a,b,c,d,e,f,g,h,i⟩,fun h=>⟨h.k8,h.b8,h.bn,h.fr,h.knots,h.bb,h.idx,h.ll,h.lb⟩⟩
instance decZer (M:Nat→Nat→Int) (m n:Nat):Decidable (∀i,m≤i→i<n→M i m=0):=decidable_of_iff (∀i,i<n→m≤i→M i m=0) ⟨fun h i a b=>h i b a,fun h i a b=>h i b a⟩
theorem frI_get {ks:List S90} {k:Nat} (h:k<(frI ks).length):(frI ks).getD k 0<ks.length:=by
 rw[List.getD_eq_getElem?_getD,List.getElem?_eq_getElem h]
 have:=List.getElem_mem h
 unfold frI frU at this
 rw[List.mem_filter,List.mem_range]at this
 exact this.1
open Go.Proofs.Ytebbdadpgapobaa.Elim in
theorem tblM_fit {ks:List S90} {bs:List S104} {ld:List S76} {bars:List Int} (h:TOk ks bs ld bars):Fit (2*(frI ks).length) bars.length (tblM ks bs ld bars):=by
 refine Fit.of (m':=(frI ks).length) h.fr rfl (kx:=fun k=>(rd_T90 ks (((frI ks).getD k 0:Nat):Int)).f0) (ky:=fun k=>(rd_T90 ks (((frI ks).getD k 0:Nat):Int)).f1) (fun k hk=>?_) (fun j hj=>?_) (fun i hi=>?_)
 ·have:=frI_get hk
  exact h.knots _ (rdK_mem (by omega) (by omega))
 ·intro k hk
  have hv:=frI_get hk
  have hx:=h.idx _ (rd_memI (xs:=bars) (a:=(j:Int)) (by omega) (by omega))
  have hb:=h.bb _ (rdB_mem (ks:=bs) (a:=rd bars (j:Int)) hx.1 hx.2)
  have hA:=h.knots _ (rdK_mem (ks:=ks) (a:=(rd_T104 bs (rd bars (j:Int))).f0) (by omega) (by omega))
  have hB:=h.knots _ (rdK_mem (ks:=ks) (a:=(rd_T104 bs (rd bars (j:Int))).f1) (by omega) (by omega))
  have e0:clm (2*(frI ks).length) (tblM ks bs ld bars) j (2*k)=colE ks 0 (((frI ks).getD k 0:Nat):Int) (rd_T104 bs (rd bars (j:Int))):=by
   unfold clm tblM
   rw[if_pos (by omega),if_pos hj,show 2*k % 2=0 by omega,show 2*k / 2=k by omega]
  have e1:clm (2*(frI ks).length) (tblM ks bs ld bars) j (2*k+1)=colE ks 1 (((frI ks).getD k 0:Nat):Int) (rd_T104 bs (rd bars (j:Int))):=by
   unfold clm tblM
   rw[if_pos (by omega),if_pos hj,show(2*k+1) % 2=1 by omega,show(2*k+1) / 2=k by omega]
  rw[e0,e1]
  dsimp only
  generalize (((frI ks).getD k 0:Nat):Int)=v at*
  generalize rd_T104 bs (rd bars (j:Int))=b at*
  unfold colE
  by_cases c1:v=b.f1
  ·left
   rw[if_pos c1,if_pos c1,if_pos rfl,if_neg (by decide),c1]
   omega
  ·rw[if_neg c1,if_neg c1]
   by_cases c2:v=b.f0
   ·left
    rw[if_pos c2,if_pos c2,if_pos rfl,if_neg (by decide),c2]
    omega
   ·right
    rw[if_neg c2,if_neg c2]
    decide
 ·unfold tblM
  have hk:i / 2<(frI ks).length:=by omega
  have hv:=frI_get hk
  have:=h.lb _ (rdL_mem (ks:=ld) (a:=(((frI ks).getD (i / 2) 0:Nat):Int)) (by omega) (by have:=h.ll;omega))
  rw[if_neg (by omega)]
  split <;> omega
section
open Go.Proofs.Ytebbdadpgapobaa.Red Go.Proofs.Ytebbdadpgapobaa.Elim
set_option maxHeartbeats 16000000 in
set_option maxRecDepth 100000 in
theorem table_calls (gp:Nat) (A0:Option Addr) (c0:Nat) (ks:List S90) (A1:Option Addr) (c1:Nat) (bs:List S104) (Al:Option Addr) (cl:Nat) (ld:List S76) (Ab:Option Addr) (cb:Nat) (bars:List Int) (W:World)
 (hok:TOk ks bs ld bars) (bT:W.heap[gp]? =some (.cells #[.slice A0 ks.length c0,.slice A1 bs.length c1] 33 (0,0)))
 (bZ:Kd.C k90 W A0 ks.length ks) (bR:Kd.C k104 W A1 bs.length bs) (hrl:Kd.C k76 W Al ld.length ld) (hrb:Kd.C (Kd.int .i64) W Ab bars.length bars):
 Calls Try.prog 89 #[.pointer (some ⟨gp,0,none⟩),.slice Al ld.length cl,.slice Ab bars.length cb] W (TabPost W ks bs ld bars):=by
 have H0:=Aside0.mk hok
 have HR:=Aside0.mk (And.intro bT (And.intro bZ (And.intro bR (And.intro hrl hrb))))
 obtain⟨mn,hmn⟩: ∃mn,mn=bars.length:=⟨_,rfl⟩
 obtain⟨nk,hnk⟩: ∃nk,nk=ks.length:=⟨_,rfl⟩
 obtain⟨nb,hnb⟩: ∃nb,nb=bs.length:=⟨_,rfl⟩
 obtain⟨nl,hnl⟩: ∃nl,nl=ld.length:=⟨_,rfl⟩
 have HN:=Aside0.mk (And.intro hmn (And.intro hnk (And.intro hnb hnl)))
 rw[← hmn,← hnl]
 clear hok bT bZ bR hrl hrb hmn hnk hnb hnl
 go_enter Try.func89,Try.ntmps89
 go_wp2_with (fail)
 obtain⟨gm,hgm⟩: ∃gm,gm=W.heap.size+1:=⟨_,rfl⟩
 obtain⟨ml,hml⟩: ∃ml,ml=mn+1:=⟨_,rfl⟩
 rw[← hgm]
 have HG:=Aside0.mk (And.intro hgm hml)
 go_loopg [8] (nk+1) (fun kq v8 w'=>∃(v:Nat) (vi:Int) (vA:Value) (b cc:Nat→Nat) (X:Nat→Nat→Int),v8= .int .i64 vi∧Aside0 (vi=(v:Int)∧v+kq=nk+1∧1≤kq)∧Aside0 (TI W gm (2*(frU ks v).length) ml (mn:Int) vA b cc X w')∧Aside0 (∀i j,i<2*(frU ks v).length→j<ml→X i j=tblM ks bs ld bars i j))
 case atStart=>
  refine⟨0,0,.slice (some ⟨W.heap.size,0,none⟩) 0 0,fun _=>0,fun _=>0,fun _ _=>0,rfl,⟨rfl,by omega,by omega⟩,⟨?_⟩,⟨fun i j hi _=>absurd hi (Nat.not_lt_zero _)⟩⟩
  have a1:=alloc_at (W.alloc (.cells #[] 26)) (.cells #[.slice (some ⟨W.heap.size,0,none⟩) 0 0,.int .i64 (mn:Int)] 137 (0,0))
  rw[size_alloc,← hgm]at a1
  refine⟨a1,Kd.R_alloc (lit_R (Kd.raw 1) W 26 W.heap.size (xs:=[]) (inner:=[]) (fun _ _ _=>Reps.none _ _) (Nat.le_refl _) (by simp)) _,fun i hi=>absurd hi (Nat.not_lt_zero _),fun i j hi=>absurd hi (Nat.not_lt_zero _),fun i hi=>absurd hi (Nat.not_lt_zero _),by omega,below_alloc (below_alloc (Below.refl _ _) _) _⟩
 case round=>
  obtain⟨v,vi,vA,b,cc,X,rfl,HA,HI,HX⟩:=hrel
  obtain⟨gq,rfl⟩: ∃k,gk=k+1:=⟨gk - 1,by have:=HA.out;omega⟩
  clear hgm hml
  have bU:vi.toNat=v:=by have:=HA.out;omega
  have cL:=Aside0.mk bU
  clear bU
  have q0:=blk_cell (blk_below HR.out.1 HI.out.bw) 0
  simp only[List.getElem?_toArray,List.getElem?_cons_zero,List.getElem?_cons_succ]at q0
  rw[← HN.out.2.1]at q0
  by_cases c2:v<nk
  ·have d1:decide (vi<(nk:Int))=true:=decide_eq_true (by have:=HA.out;omega)
   obtain⟨ad,had,h0,h1,h2⟩:=at_T90 (Kd.C_below HR.out.2.1 HI.out.bw) vi (by have:=HA.out;omega) (by have:=HA.out;have:=HN.out;omega)
   subst had
   have C2:=Aside0.mk c2
   clear c2
   have p1:(0≤vi)=True:=eq_true (by have:=HA.out;omega)
   have p2:(vi<(nk:Int))=True:=eq_true (by have:=HA.out;have:=C2.out;omega)
   have hvr:rd_T90 ks vi=rd_T90 ks ((v:Nat):Int):=by rw[HA.out.1]
   by_cases c3:(rd_T90 ks vi).f2=true
   ·rw[c3]at h2
    have hfu:=frU_succ ks v
    rw[← hvr,if_pos c3,List.append_nil]at hfu
    have HF:=Aside0.mk hfu
    clear c3 hfu hvr
    go_wp2_with (fail)
    go_roundg gq
    case measure=>omega
    case rel=>
     have h1:=HA.out;have h2:=C2.out;have h3:=H0.out.k8;have h4:=HN.out
     have hw:=wrap_id (vi+1) (by omega) (by omega)
     exact⟨v+1,vi+1,vA,b,cc,X,by rw[hw],⟨by omega,by omega,by omega⟩,by rw[HF.out];exact HI,by rw[HF.out];exact HX⟩
   ·have c3:(rd_T90 ks vi).f2=false:=Bool.eq_false_iff.2 c3
    rw[c3]at h2
    have HF:=Aside0.mk (show(rd_T90 ks ((v:Nat):Int)).f2=false from hvr▸c3)
    clear c3 hvr
    go_wp2_with (fail)
    go_loopg [9,10,11] (mn+1) (fun kq v9 cI cC w'=>∃(j:Nat) (jj:Int) (xs ys:List Int),cC= .int .i64 jj∧Aside0 (jj=(j:Int)∧j+kq=mn+1∧1≤kq)∧Aside0 (TI W gm (2*(frU ks v).length) ml (mn:Int) vA b cc X w'∧RW2 W (2*(frU ks v).length) b v9 cI xs ys w')∧Aside0 (xs=(List.range j).map (fun(j':Nat)=>colE ks 0 (v:Int) (rd_T104 bs (rd bars (j':Int))))∧ys=(List.range j).map (fun(j':Nat)=>colE ks 1 (v:Int) (rd_T104 bs (rd bars (j':Int))))))
    case atStart=>
     have b1:Below wr.heap.size wr ((wr.alloc (.cells #[] 2)).alloc (.cells #[] 2)):=below_alloc (below_alloc (Below.refl _ _) _) _
     have hsz:=HI.out.bw.size
     have r1:=lit_R (Kd.int .i64) wr 2 W.heap.size (xs:=[]) (inner:=[]) (fun _ _ _=>Reps.none _ _) hsz (by simp)
     have r2:=lit_R (Kd.int .i64) (wr.alloc (.cells #[] 2)) 2 W.heap.size (xs:=[]) (inner:=[]) (fun _ _ _=>Reps.none _ _) (by rw[size_alloc];omega) (by simp)
     rw[size_alloc]at r2
     have hlt:=HI.out.rows_lt
     refine⟨0,0,[],[],rfl,⟨rfl,by omega,by omega⟩,⟨HI.out.below b1,Kd.R_alloc r1 _,r2,fun k hk=>?_,fun k hk i hi z=>?_⟩,⟨rfl,rfl⟩⟩
     ·injection hk with hk
      have hk:wr.heap.size=k:=hk
      subst hk
      exact⟨fun z=>by injection z with z;have z:wr.heap.size+1=wr.heap.size:=z;omega,fun i hi z=>by have:=hlt i hi;omega⟩
     ·injection hk with hk
      have hk:wr.heap.size+1=k:=hk
      have:=hlt i hi;omega
    case round=>
     obtain⟨j,jj,xs,ys,rfl,HD,HK,HL⟩:=hrel
     obtain⟨gr,rfl⟩: ∃k,gk=k+1:=⟨gk - 1,by have:=HD.out;omega⟩
     obtain⟨A9,c9,cE⟩:=Kd.R_slice HK.out.2.x
     obtain⟨aI,c10,bN⟩:=Kd.R_slice HK.out.2.y
     subst cE bN
     have bV:jj.toNat=j:=by have:=HD.out;omega
     have cN:=Aside0.mk bV
     clear bV q0 h0 h1 h2
     by_cases c4:j<mn
     ·have d2:decide (jj<(mn:Int))=true:=decide_eq_true (by have:=HD.out;omega)
      have C4:=Aside0.mk c4
      clear c4
      obtain⟨x,hx⟩: ∃x,x=rd bars jj:=⟨_,rfl⟩
      obtain⟨fb,hfb⟩: ∃fb,fb=rd_T104 bs x:=⟨_,rfl⟩
      have aD:=Aside0.mk (show x=rd bars ((j:Nat):Int)∧(0≤x∧x<(nb:Int))∧(0≤fb.f0∧fb.f0<fb.f1∧fb.f1<(nk:Int))from by
       have e:jj=((j:Nat):Int):=HD.out.1
       have hxm:=H0.out.idx x (by rw[hx,e];exact rd_memI (by omega) (by have:=HN.out.1;have:=C4.out;omega))
       have hbm:=H0.out.bb fb (by rw[hfb];exact rdB_mem hxm.1 hxm.2)
       have:=HN.out
       exact⟨by rw[hx,e],⟨hxm.1,by omega⟩,⟨hbm.1,hbm.2.1,by omega⟩⟩)
      have hbw:=HK.out.1.bw
      obtain⟨ab,hab,k0⟩:=Kd.at_int (Kd.C_below HR.out.2.2.2.2 hbw) jj (by have:=HD.out;omega) (by have:=HD.out;have:=C4.out;have:=HN.out;omega)
      subst hab
      rw[← hx]at k0
      obtain⟨a4,cB,k1,k2,k3⟩:=at_T104 (Kd.C_below HR.out.2.2.1 hbw) x aD.out.2.1.1 (by have:=aD.out;have:=HN.out;omega)
      subst cB
      rw[← hfb]at k1 k2 k3
      have q1:=blk_cell (blk_below HR.out.1 hbw) 1
      have q0:=blk_cell (blk_below HR.out.1 hbw) 0
      simp only[List.getElem?_toArray,List.getElem?_cons_zero,List.getElem?_cons_succ]at q0 q1
      rw[← HN.out.2.2.1]at q1
      rw[← HN.out.2.1]at q0
      obtain⟨a5,bJ,e0,e1,e2⟩:=at_T90 (Kd.C_below HR.out.2.1 hbw) fb.f0 (by have:=aD.out;omega) (by have:=aD.out;have:=HN.out;omega)
      injection bJ with bJ
      subst bJ
      obtain⟨a6,bO,g0,g1,g2⟩:=at_T90 (Kd.C_below HR.out.2.1 hbw) fb.f1 (by have:=aD.out;omega) (by have:=aD.out;have:=HN.out;omega)
      injection bO with bO
      subst bO
      have HXE:=Aside0.mk (And.intro hx hfb)
      clear hx hfb
      have p3:(0≤jj)=True:=eq_true (by have:=HD.out;omega)
      have p4:(jj<(mn:Int))=True:=eq_true (by have:=HD.out;have:=C4.out;omega)
      have p5:(0≤x)=True:=eq_true aD.out.2.1.1
      have p6:(x<(nb:Int))=True:=eq_true aD.out.2.1.2
      have p7:(0≤fb.f0)=True:=eq_true aD.out.2.2.1
      have p8:(fb.f0<(nk:Int))=True:=eq_true (by have:=aD.out;omega)
      have p9:(0≤fb.f1)=True:=eq_true (by have:=aD.out;omega)
      have cP:(fb.f1<(nk:Int))=True:=eq_true (by have:=aD.out;omega)
      go_upto_region 11 with (fail)
      refine start_ (n:=12) (S:=fun w'=>w'.cell? ⟨gp,1,none⟩=some (.slice (some a4) nb c1)∧w'.cell? (ab.add jj.toNat)=some (.int .i64 x)∧w'.cell? (a4.add (x.toNat*3))=some (.int .i64 fb.f0)∧w'.cell? ⟨(a4.add (x.toNat*3)).block,(a4.add (x.toNat*3)).off+1,none⟩=some (.int .i64 fb.f1)∧w'.cell? ⟨(a4.add (x.toNat*3)).block,(a4.add (x.toNat*3)).off+2,none⟩=some (.bool fb.f2)) (ds:=[11]) #[false,false,false,false,false,false,false,false,false,false,false,false] (by kernel_rfl) rfl rfl ⟨q1,k0,k1,k2,k3⟩ (fun hHeld=>?_)
      refine pure_ (i:=0) (N:=some 45) (v:=?_) (a':=?_) #[true,false,false,false,false,false,false,false,false,false,false,false] rfl rfl (by kernel_rfl) (fun _ _ _ h=>h) (Or.inl ⟨by rfl,?_⟩) ?_ ?_
      rotate_left
      ·intro w'
       go_simp
       with_reducible rfl
      rotate_left
      ·simp only[Act.put,List.setIfInBounds_toArray,List.set_cons_zero,List.set_cons_succ,i64_w,i32_w]
       rfl
      refine pure_ (i:=1) (N:=some 46) (v:=?_) (a':=?_) #[true,true,false,false,false,false,false,false,false,false,false,false] rfl rfl (by kernel_rfl) (fun _ _ _ h=>h) (Or.inl ⟨by rfl,?_⟩) ?_ ?_
      rotate_left
      ·intro w'
       go_simp
       with_reducible rfl
      rotate_left
      ·simp only[Act.put,List.setIfInBounds_toArray,List.set_cons_zero,List.set_cons_succ,i64_w,i32_w]
       rfl
      refine pure_ (i:=2) (N:=some 47) (v:=?_) (a':=?_) #[true,true,true,false,false,false,false,false,false,false,false,false] rfl rfl (by kernel_rfl) (fun _ _ _ h=>h) (Or.inl ⟨by rfl,?_⟩) ?_ ?_
      rotate_left
      ·intro w'
       go_simp
       with_reducible rfl
      rotate_left
      ·simp only[Act.put,List.setIfInBounds_toArray,List.set_cons_zero,List.set_cons_succ,i64_w,i32_w]
       rfl
      refine take_ (i:=3) (N:=some 48) (v:=?_) (a':=?_) #[true,true,true,true,false,false,false,false,false,false,false,false] rfl rfl (by kernel_rfl) (fun _ _ _ h=>h) (Or.inl ⟨by rfl,?_⟩) hHeld ?_ ?_
      rotate_left
      ·rintro w' ⟨s0,s1,s2,s3,s4⟩
       go_simp
       with_reducible rfl
      rotate_left
      ·simp only[Act.put,List.setIfInBounds_toArray,List.set_cons_zero,List.set_cons_succ,i64_w,i32_w]
       rfl
      refine pure_ (i:=4) (N:=some 49) (v:=?_) (a':=?_) #[true,true,true,true,true,false,false,false,false,false,false,false] rfl rfl (by kernel_rfl) (fun _ _ _ h=>h) (Or.inl ⟨by rfl,?_⟩) ?_ ?_
      rotate_left
      ·intro w'
       go_simp
       with_reducible rfl
      rotate_left
      ·simp only[Act.put,List.setIfInBounds_toArray,List.set_cons_zero,List.set_cons_succ,i64_w,i32_w]
       rfl
      refine pure_ (i:=5) (N:=some 50) (v:=?_) (a':=?_) #[true,true,true,true,true,true,false,false,false,false,false,false] rfl rfl (by kernel_rfl) (fun _ _ _ h=>h) (Or.inl ⟨by rfl,?_⟩) ?_ ?_
      rotate_left
      ·intro w'
       go_simp
       with_reducible rfl
      rotate_left
      ·simp only[Act.put,List.setIfInBounds_toArray,List.set_cons_zero,List.set_cons_succ,i64_w,i32_w]
       rfl
      refine pure_ (i:=6) (N:=some 51) (v:=?_) (a':=?_) #[true,true,true,true,true,true,true,false,false,false,false,false] rfl rfl (by kernel_rfl) (fun _ _ _ h=>h) (Or.inl ⟨by rfl,?_⟩) ?_ ?_
      rotate_left
      ·intro w'
       go_simp
       with_reducible rfl
      rotate_left
      ·simp only[Act.put,List.setIfInBounds_toArray,List.set_cons_zero,List.set_cons_succ,i64_w,i32_w]
       rfl
      refine take_ (i:=7) (N:=some 52) (v:=?_) (a':=?_) #[true,true,true,true,true,true,true,true,false,false,false,false] rfl rfl (by kernel_rfl) (fun _ _ _ h=>h) (Or.inl ⟨by rfl,?_⟩) hHeld ?_ ?_
      rotate_left
      ·rintro w' ⟨s0,s1,s2,s3,s4⟩
       go_simp
       with_reducible rfl
      rotate_left
      ·simp only[Act.put,List.setIfInBounds_toArray,List.set_cons_zero,List.set_cons_succ,i64_w,i32_w]
       rfl
      refine pure_ (i:=8) (N:=some 53) (v:=?_) (a':=?_) #[true,true,true,true,true,true,true,true,true,false,false,false] rfl rfl (by kernel_rfl) (fun _ _ _ h=>h) (Or.inl ⟨by rfl,?_⟩) ?_ ?_
      rotate_left
      ·intro w'
       go_simp
       with_reducible rfl
      rotate_left
      ·simp only[Act.put,List.setIfInBounds_toArray,List.set_cons_zero,List.set_cons_succ,i64_w,i32_w]
       rfl
      refine take_ (i:=9) (N:=some 54) (v:=?_) (a':=?_) #[true,true,true,true,true,true,true,true,true,true,false,false] rfl rfl (by kernel_rfl) (fun _ _ _ h=>h) (Or.inl ⟨by rfl,?_⟩) hHeld ?_ ?_
      rotate_left
      ·rintro w' ⟨s0,s1,s2,s3,s4⟩
       go_simp
       with_reducible rfl
      rotate_left
      ·simp only[Act.put,List.setIfInBounds_toArray,List.set_cons_zero,List.set_cons_succ,i64_w,i32_w]
       rfl
      obtain⟨w1,aK⟩: ∃w1,Aside0 (w1=wr.drew):=⟨_,⟨rfl⟩⟩
      rw[← aK.out]
      rw[← aK.out]at hHeld
      refine one_ (i:=10) (N:=some 12) #[true,true,true,true,true,true,true,true,true,true,true,false] rfl rfl (by kernel_rfl) (by decide) (fun K hK=>?_)
      refine value_ (w1:=?_) (v:=?_) (by rfl) rfl ?_ ?_
      rotate_left 2
      ·go_simp
       constructor
       ·rfl
       ·rfl
      have aV:=Aside0.mk (below_alloc (Below.refl w1.heap.size w1) (.cells #[.int .i64 0,.int .i64 0,.bool false] 104))
      refine hK.out _ _ ⟨(aV.out.cell (World.block_lt_of_cell? _ _ hHeld.1)).trans hHeld.1,(aV.out.cell (World.block_lt_of_cell? _ _ hHeld.2.1)).trans hHeld.2.1,(aV.out.cell (World.block_lt_of_cell? _ _ hHeld.2.2.1)).trans hHeld.2.2.1,(aV.out.cell (World.block_lt_of_cell? _ _ hHeld.2.2.2.1)).trans hHeld.2.2.2.1,(aV.out.cell (World.block_lt_of_cell? _ _ hHeld.2.2.2.2)).trans hHeld.2.2.2.2⟩ (fun hHeld=>?_)
      clear hK K
      refine norm_ (a':=?_) ?_ ?_
      rotate_left
      ·show Act.put _ (some 12) _=_
       simp only[Act.put,List.setIfInBounds_toArray,List.set_cons_zero,List.set_cons_succ,i64_w,i32_w]
       rfl
      obtain⟨gb,hgb⟩: ∃gb,gb=w1.heap.size:=⟨_,rfl⟩
      obtain⟨w2,bB⟩: ∃w2,w2=w1.alloc (.cells #[.int .i64 0,.int .i64 0,.bool false] 104):=⟨_,rfl⟩
      have hbk:w2.heap[gb]? =some (.cells #[.int .i64 0,.int .i64 0,.bool false] 104 (0,0)):=by rw[bB,hgb];exact alloc_at _ _
      rw[← bB]at hHeld
      rw[← bB,← hgb]
      have bE:=(blk_cell hbk 0).trans rfl
      have bA:=(blk_cell hbk 1).trans rfl
      have cA:=(blk_cell hbk 2).trans rfl
      have cF:=blk_frozen hbk 0
      have cJ:=blk_frozen hbk 1
      have cH:=blk_frozen hbk 2
      have aX:=Aside0.mk (And.intro hbk (And.intro (show Below w1.heap.size w1 w2 from bB▸aV.out) (show w1.heap.size≤gb from Nat.le_of_eq hgb.symm)))
      clear hbk bB hgb aV
      refine last_ (i:=11) (N:=none) #[true,true,true,true,true,true,true,true,true,true,true,true] rfl rfl (by kernel_rfl) (by decide) (fun K hK=>?_)
      refine skip_ (w1:=?_) (by rfl) rfl ?_ ?_
      rotate_left
      ·go_simp
       rfl
      refine hK.out _ _ ?_
      clear hK K
      refine done_ (by kernel_rfl) ?_
      obtain⟨w3,bH⟩: ∃w3,w3=((w2.setCell ⟨gb,0,none⟩ (.int .i64 fb.f0)).setCell ⟨gb,1,none⟩ (.int .i64 fb.f1)).setCell ⟨gb,2,none⟩ (.bool fb.f2):=⟨_,rfl⟩
      rw[← bH]
      have hbx:w3.heap[gb]? =some (.cells #[.int .i64 fb.f0,.int .i64 fb.f1,.bool fb.f2] 104 (0,0)):=by
       have t1:=blk_set aX.out.1 0 (.int .i64 fb.f0)
       have t2:=blk_set t1 1 (.int .i64 fb.f1)
       have t3:=blk_set t2 2 (.bool fb.f2)
       rw[bH];simpa using t3
      have bX:Below w1.heap.size w1 w3:=by rw[bH];exact below_set (below_set (below_set aX.out.2.1 aX.out.2.2) aX.out.2.2) aX.out.2.2
      have aG:Below wr.heap.size wr w3:=by
       have e:Below wr.heap.size wr w1:=by rw[aK.out];exact below_drew (Below.refl _ _)
       exact below_step e bX
      clear bH hHeld bE bA cA cF cJ cH aX aK k0 k1 k2 k3
      have bK:=Aside0.mk (show TI W gm (2*(frU ks v).length) ml (mn:Int) vA b cc X w3∧RW2 W (2*(frU ks v).length) b (.slice A9 xs.length c9) (.slice aI ys.length c10) xs ys w3 from⟨HK.out.1.below aG,HK.out.2.below aG⟩)
      replace q0:=(aG.cell (World.block_lt_of_cell? _ _ q0)).trans q0
      replace e0:=(aG.cell (World.block_lt_of_cell? _ _ e0)).trans e0
      replace e1:=(aG.cell (World.block_lt_of_cell? _ _ e1)).trans e1
      replace g0:=(aG.cell (World.block_lt_of_cell? _ _ g0)).trans g0
      replace g1:=(aG.cell (World.block_lt_of_cell? _ _ g1)).trans g1
      clear e2 g2 q1 HK bX aG
      have b0:=blk_cell hbx 0
      have b1:=blk_cell hbx 1
      simp only[List.getElem?_toArray,List.getElem?_cons_zero,List.getElem?_cons_succ]at b0 b1
      have HBX:=Aside0.mk hbx
      clear hbx
      obtain⟨AX,hAX⟩: ∃z,z=(rd_T90 ks fb.f0).f0:=⟨_,rfl⟩
      obtain⟨AY,hAY⟩: ∃z,z=(rd_T90 ks fb.f0).f1:=⟨_,rfl⟩
      obtain⟨BX,hBX⟩: ∃z,z=(rd_T90 ks fb.f1).f0:=⟨_,rfl⟩
      obtain⟨BY,hBY⟩: ∃z,z=(rd_T90 ks fb.f1).f1:=⟨_,rfl⟩
      obtain⟨dx,hdx⟩: ∃z,z=BX - AX:=⟨_,rfl⟩
      obtain⟨dy,hdy⟩: ∃z,z=BY - AY:=⟨_,rfl⟩
      have HDX:=Aside0.mk (show(dx=(rd_T90 ks fb.f1).f0 - (rd_T90 ks fb.f0).f0∧dy=(rd_T90 ks fb.f1).f1 - (rd_T90 ks fb.f0).f1)∧(-12≤dx∧dx≤12)∧(-12≤dy∧dy≤12)from by
       have hA:=H0.out.knots _ (rdK_mem (ks:=ks) (a:=fb.f0) aD.out.2.2.1 (by have:=aD.out;have:=HN.out;omega))
       have hB:=H0.out.knots _ (rdK_mem (ks:=ks) (a:=fb.f1) (by have:=aD.out;omega) (by have:=aD.out;have:=HN.out;omega))
       rw[← hAX,← hAY]at hA
       rw[← hBX,← hBY]at hB
       exact⟨⟨by rw[hdx,hAX,hBX],by rw[hdy,hAY,hBY]⟩,by omega,by omega⟩)
      rw[← hAX]at e0
      rw[← hAY]at e1
      rw[← hBX]at g0
      rw[← hBY]at g1
      have hwx:wrap64 (BX - AX)=dx:=by rw[hdx];have:=HDX.out;exact wrap_id _ (by omega) (by omega)
      have bL:IntKind.i64.wrap (BX - AX)=dx:=(i64_w _).trans hwx
      have hwy:wrap64 (BY - AY)=dy:=by rw[hdy];have:=HDX.out;exact wrap_id _ (by omega) (by omega)
      have bQ:IntKind.i64.wrap (BY - AY)=dy:=(i64_w _).trans hwy
      clear hAX hAY hBX hBY hdx hdy
      go_wp2_with (fail)
      go_quiet (fail)
      obtain⟨n1,bS⟩: ∃m:Nat,m=nq:=⟨_,rfl⟩
      rw[← bS]
      clear bS nq
      go_wp2_with (fail)
      go_quiet (fail)
      obtain⟨w4,bI⟩: ∃w4,w4=(w3.drewN n1).drewN nq:=⟨_,rfl⟩
      rw[← bI]
      have aC:=Aside0.mk (show TI W gm (2*(frU ks v).length) ml (mn:Int) vA b cc X w4∧RW2 W (2*(frU ks v).length) b (.slice A9 xs.length c9) (.slice aI ys.length c10) xs ys w4 from by rw[bI];exact⟨(bK.out.1.drewN _).drewN _,(bK.out.2.drewN _).drewN _⟩)
      have aW:w4.heap[gb]? =some (.cells #[.int .i64 fb.f0,.int .i64 fb.f1,.bool fb.f2] 104 (0,0)):=by rw[bI];exact HBX.out
      clear bI nq bK HBX b0 b1 q0 e0 e1 g0 g1 hwx bL hwy bQ
      have b0:=blk_cell aW 0
      have b1:=blk_cell aW 1
      simp only[List.getElem?_toArray,List.getElem?_cons_zero,List.getElem?_cons_succ]at b0 b1
      clear aW
      have aU:(fb.f1=vi∧fb.f0≠vi)∨(fb.f1≠vi∧fb.f0=vi)∨(fb.f1≠vi∧fb.f0≠vi):=by have:=aD.out.2.2;omega
      rcases aU with ⟨c5,c6⟩|⟨c5,c6⟩|⟨c5,c6⟩
      ·have t1:(fb.f1 == vi)=true:=beq_iff_eq.mpr c5
       have t2:(fb.f0 != vi)=true:=bne_iff_ne.mpr c6
       have t3:(fb.f1 != vi)=false:=by rw[c5];simp
       have C5:=Aside0.mk (And.intro c5 c6)
       clear c5 c6
       obtain⟨ex,hex⟩: ∃z,z= -dx:=⟨_,rfl⟩
       obtain⟨ey,hey⟩: ∃z,z= -dy:=⟨_,rfl⟩
       have hnx:wrap64 (-dx)=ex:=by rw[hex];have:=HDX.out;exact wrap_id _ (by omega) (by omega)
       have hny:wrap64 (-dy)=ey:=by rw[hey];have:=HDX.out;exact wrap_id _ (by omega) (by omega)
       have HEQ:=Aside0.mk (And.intro hex hey)
       clear hex hey
       go_upto_region 20 with (fail)
       have HLEN:=Aside0.mk (show xs.length=j∧ys.length=j∧j≤8 from by rw[HL.out.1,HL.out.2];have:=H0.out.b8;have:=HN.out;have:=C4.out;simp;omega)
       have HEX:=Aside0.mk (show ex=colE ks 0 (v:Int) (rd_T104 bs (rd bars ((j:Nat):Int)))∧ey=colE ks 1 (v:Int) (rd_T104 bs (rd bars ((j:Nat):Int)))from by
        rw[← aD.out.1,← HXE.out.2,← HA.out.1]
        have hd:=HDX.out.1
        unfold colE
        rw[if_pos C5.out.1.symm,if_pos C5.out.1.symm,if_pos rfl,if_neg (by decide),HEQ.out.1,HEQ.out.2,hd.1,hd.2];exact⟨rfl,rfl⟩)
       go_upto_region 21 with (at_builtin;refine Kd.R_append (Kd.int .i64) (w0:=W) W.heap.size rfl (.tmp 111) (.tmp 113) 26 2 (.int .i64 0) 8 rfl Try.underlying26 info2 rfl (by decide) (by omega) (.slice A9 xs.length c9) xs ex [.int .i64 ex] (fun _=>True) (fun _=>False) rfl (by first|(go_simp;done)|(go_simp;rfl)) ?aP (fun _ hk=>hk.elim) ?aF ?aO ?aB ?aS ?aL ?_;(case aP=>exact rfl);(case aF=>exact fun _ _=>trivial);(case aO=>exact aC.out.2.x);(case aB=>exact aC.out.1.bw);(case aS=>exact aC.out.1.bw.size);(case aL=>have:=HLEN.out;omega);intro aT w5 ho hb hg hat;have aA:=Aside0.mk (show TI W gm (2*(frU ks v).length) ml (mn:Int) vA b cc X w5∧RW2 W (2*(frU ks v).length) b aT (.slice aI ys.length c10) (xs ++ [ex]) ys w5 from⟨aC.out.1.grown aC.out.2.x (fun k hk=>(aC.out.2.ax k hk).2) hg hb,aC.out.2.growX aC.out.1.rows_lt ho hg hat⟩);clear ho hb hg hat)
       go_wp2_with (at_builtin;refine Kd.R_append (Kd.int .i64) (w0:=W) W.heap.size rfl (.tmp 115) (.tmp 117) 26 2 (.int .i64 0) 8 rfl Try.underlying26 info2 rfl (by decide) (by omega) (.slice aI ys.length c10) ys ey [.int .i64 ey] (fun _=>True) (fun _=>False) rfl (by first|(go_simp;done)|(go_simp;rfl)) ?aP (fun _ hk=>hk.elim) ?aF ?aO ?aB ?aS ?aL ?_;(case aP=>exact rfl);(case aF=>exact fun _ _=>trivial);(case aO=>exact aA.out.2.y);(case aB=>exact aA.out.1.bw);(case aS=>exact aA.out.1.bw.size);(case aL=>have:=HLEN.out;omega);intro aM w6 ho hb hg hat;have aZ:=Aside0.mk (show TI W gm (2*(frU ks v).length) ml (mn:Int) vA b cc X w6∧RW2 W (2*(frU ks v).length) b aT aM (xs ++ [ex]) (ys ++ [ey]) w6 from⟨aA.out.1.grown aA.out.2.y aA.out.2.ay hg hb,aA.out.2.growY aA.out.1.rows_lt ho hg hat⟩);clear ho hb hg hat)
       go_roundg gr
       case measure=>omega
       case rel=>
        have h1:=HD.out;have h2:=C4.out;have h3:=H0.out.b8;have h4:=HN.out
        have hw:=wrap_id (jj+1) (by omega) (by omega)
        refine⟨j+1,jj+1,xs ++ [ex],ys ++ [ey],by rw[hw],⟨by omega,by omega,by omega⟩,aZ,⟨?_,?_⟩⟩
        ·rw[List.range_succ,List.map_append,← HL.out.1,HEX.out.1];rfl
        ·rw[List.range_succ,List.map_append,← HL.out.2,HEX.out.2];rfl
      ·have t1:(fb.f1 == vi)=false:=beq_eq_false_iff_ne.mpr c5
       have t2:(fb.f0 != vi)=false:=by rw[c6];simp
       have C5:=Aside0.mk (And.intro c5 c6)
       clear c5 c6
       go_upto_region 20 with (fail)
       have HLEN:=Aside0.mk (show xs.length=j∧ys.length=j∧j≤8 from by rw[HL.out.1,HL.out.2];have:=H0.out.b8;have:=HN.out;have:=C4.out;simp;omega)
       have HEX:=Aside0.mk (show dx=colE ks 0 (v:Int) (rd_T104 bs (rd bars ((j:Nat):Int)))∧dy=colE ks 1 (v:Int) (rd_T104 bs (rd bars ((j:Nat):Int)))from by
        rw[← aD.out.1,← HXE.out.2,← HA.out.1]
        have hd:=HDX.out.1
        unfold colE
        have hA: ¬vi=fb.f1:=fun z=>C5.out.1 z.symm
        rw[if_neg hA,if_neg hA,if_pos C5.out.2.symm,if_pos C5.out.2.symm,if_pos rfl,if_neg (by decide),hd.1,hd.2];exact⟨rfl,rfl⟩)
       go_upto_region 21 with (at_builtin;refine Kd.R_append (Kd.int .i64) (w0:=W) W.heap.size rfl (.tmp 111) (.tmp 113) 26 2 (.int .i64 0) 8 rfl Try.underlying26 info2 rfl (by decide) (by omega) (.slice A9 xs.length c9) xs dx [.int .i64 dx] (fun _=>True) (fun _=>False) rfl (by first|(go_simp;done)|(go_simp;rfl)) ?aP (fun _ hk=>hk.elim) ?aF ?aO ?aB ?aS ?aL ?_;(case aP=>exact rfl);(case aF=>exact fun _ _=>trivial);(case aO=>exact aC.out.2.x);(case aB=>exact aC.out.1.bw);(case aS=>exact aC.out.1.bw.size);(case aL=>have:=HLEN.out;omega);intro aT w5 ho hb hg hat;have aA:=Aside0.mk (show TI W gm (2*(frU ks v).length) ml (mn:Int) vA b cc X w5∧RW2 W (2*(frU ks v).length) b aT (.slice aI ys.length c10) (xs ++ [dx]) ys w5 from⟨aC.out.1.grown aC.out.2.x (fun k hk=>(aC.out.2.ax k hk).2) hg hb,aC.out.2.growX aC.out.1.rows_lt ho hg hat⟩);clear ho hb hg hat)
       go_wp2_with (at_builtin;refine Kd.R_append (Kd.int .i64) (w0:=W) W.heap.size rfl (.tmp 115) (.tmp 117) 26 2 (.int .i64 0) 8 rfl Try.underlying26 info2 rfl (by decide) (by omega) (.slice aI ys.length c10) ys dy [.int .i64 dy] (fun _=>True) (fun _=>False) rfl (by first|(go_simp;done)|(go_simp;rfl)) ?aP (fun _ hk=>hk.elim) ?aF ?aO ?aB ?aS ?aL ?_;(case aP=>exact rfl);(case aF=>exact fun _ _=>trivial);(case aO=>exact aA.out.2.y);(case aB=>exact aA.out.1.bw);(case aS=>exact aA.out.1.bw.size);(case aL=>have:=HLEN.out;omega);intro aM w6 ho hb hg hat;have aZ:=Aside0.mk (show TI W gm (2*(frU ks v).length) ml (mn:Int) vA b cc X w6∧RW2 W (2*(frU ks v).length) b aT aM (xs ++ [dx]) (ys ++ [dy]) w6 from⟨aA.out.1.grown aA.out.2.y aA.out.2.ay hg hb,aA.out.2.growY aA.out.1.rows_lt ho hg hat⟩);clear ho hb hg hat)
       go_roundg gr
       case measure=>omega
       case rel=>
        have h1:=HD.out;have h2:=C4.out;have h3:=H0.out.b8;have h4:=HN.out
        have hw:=wrap_id (jj+1) (by omega) (by omega)
        refine⟨j+1,jj+1,xs ++ [dx],ys ++ [dy],by rw[hw],⟨by omega,by omega,by omega⟩,aZ,⟨?_,?_⟩⟩
        ·rw[List.range_succ,List.map_append,← HL.out.1,HEX.out.1];rfl
        ·rw[List.range_succ,List.map_append,← HL.out.2,HEX.out.2];rfl
      ·have t1:(fb.f1 == vi)=false:=beq_eq_false_iff_ne.mpr c5
       have t2:(fb.f0 != vi)=true:=bne_iff_ne.mpr c6
       have t3:(fb.f1 != vi)=true:=bne_iff_ne.mpr c5
       have C5:=Aside0.mk (And.intro c5 c6)
       clear c5 c6
       go_upto_region 20 with (fail)
       have HLEN:=Aside0.mk (show xs.length=j∧ys.length=j∧j≤8 from by rw[HL.out.1,HL.out.2];have:=H0.out.b8;have:=HN.out;have:=C4.out;simp;omega)
       have HEX:=Aside0.mk (show 0=colE ks 0 (v:Int) (rd_T104 bs (rd bars ((j:Nat):Int)))∧0=colE ks 1 (v:Int) (rd_T104 bs (rd bars ((j:Nat):Int)))from by
        rw[← aD.out.1,← HXE.out.2,← HA.out.1]
        have hd:=HDX.out.1
        unfold colE
        have hA: ¬vi=fb.f1:=fun z=>C5.out.1 z.symm
        have hB: ¬vi=fb.f0:=fun z=>C5.out.2 z.symm
        rw[if_neg hA,if_neg hA,if_neg hB,if_neg hB];exact⟨rfl,rfl⟩)
       go_upto_region 21 with (at_builtin;refine Kd.R_append (Kd.int .i64) (w0:=W) W.heap.size rfl (.tmp 111) (.tmp 113) 26 2 (.int .i64 0) 8 rfl Try.underlying26 info2 rfl (by decide) (by omega) (.slice A9 xs.length c9) xs 0 [.int .i64 0] (fun _=>True) (fun _=>False) rfl (by first|(go_simp;done)|(go_simp;rfl)) ?aP (fun _ hk=>hk.elim) ?aF ?aO ?aB ?aS ?aL ?_;(case aP=>exact rfl);(case aF=>exact fun _ _=>trivial);(case aO=>exact aC.out.2.x);(case aB=>exact aC.out.1.bw);(case aS=>exact aC.out.1.bw.size);(case aL=>have:=HLEN.out;omega);intro aT w5 ho hb hg hat;have aA:=Aside0.mk (show TI W gm (2*(frU ks v).length) ml (mn:Int) vA b cc X w5∧RW2 W (2*(frU ks v).length) b aT (.slice aI ys.length c10) (xs ++ [0]) ys w5 from⟨aC.out.1.grown aC.out.2.x (fun k hk=>(aC.out.2.ax k hk).2) hg hb,aC.out.2.growX aC.out.1.rows_lt ho hg hat⟩);clear ho hb hg hat)
       go_wp2_with (at_builtin;refine Kd.R_append (Kd.int .i64) (w0:=W) W.heap.size rfl (.tmp 115) (.tmp 117) 26 2 (.int .i64 0) 8 rfl Try.underlying26 info2 rfl (by decide) (by omega) (.slice aI ys.length c10) ys 0 [.int .i64 0] (fun _=>True) (fun _=>False) rfl (by first|(go_simp;done)|(go_simp;rfl)) ?aP (fun _ hk=>hk.elim) ?aF ?aO ?aB ?aS ?aL ?_;(case aP=>exact rfl);(case aF=>exact fun _ _=>trivial);(case aO=>exact aA.out.2.y);(case aB=>exact aA.out.1.bw);(case aS=>exact aA.out.1.bw.size);(case aL=>have:=HLEN.out;omega);intro aM w6 ho hb hg hat;have aZ:=Aside0.mk (show TI W gm (2*(frU ks v).length) ml (mn:Int) vA b cc X w6∧RW2 W (2*(frU ks v).length) b aT aM (xs ++ [0]) (ys ++ [0]) w6 from⟨aA.out.1.grown aA.out.2.y aA.out.2.ay hg hb,aA.out.2.growY aA.out.1.rows_lt ho hg hat⟩);clear ho hb hg hat)
       go_roundg gr
       case measure=>omega
       case rel=>
        have h1:=HD.out;have h2:=C4.out;have h3:=H0.out.b8;have h4:=HN.out
        have hw:=wrap_id (jj+1) (by omega) (by omega)
        refine⟨j+1,jj+1,xs ++ [0],ys ++ [0],by rw[hw],⟨by omega,by omega,by omega⟩,aZ,⟨?_,?_⟩⟩
        ·rw[List.range_succ,List.map_append,← HL.out.1,HEX.out.1];rfl
        ·rw[List.range_succ,List.map_append,← HL.out.2,HEX.out.2];rfl
     ·have C4:=Aside0.mk (show j=mn from by have:=HD.out;omega)
      have d2:decide (jj<(mn:Int))=false:=decide_eq_false (by have:=HD.out;have:=C4.out;omega)
      clear c4
      have HLEN:=Aside0.mk (show xs.length=mn∧ys.length=mn∧mn≤8 from by rw[HL.out.1,HL.out.2];have:=H0.out.b8;have:=HN.out;have:=C4.out;simp;omega)
      obtain⟨lx,hlx⟩: ∃z,z=(rd_T76 ld vi).f0:=⟨_,rfl⟩
      obtain⟨ly,hly⟩: ∃z,z=(rd_T76 ld vi).f1:=⟨_,rfl⟩
      have hvl:0≤vi∧vi<(nl:Int):=by have:=HA.out;have:=C2.out;have:=HN.out;have:=H0.out.ll;omega
      obtain⟨al,hal,l0,l1⟩:=at_T76 HR.out.2.2.2.1 vi hvl.1 (by have:=HN.out;omega)
      subst hal
      rw[← hlx]at l0
      rw[← hly]at l1
      have L0:=Aside0.mk l0
      have L1:=Aside0.mk l1
      clear l0 l1
      have hlb:=H0.out.lb _ (rdL_mem (ks:=ld) (a:=vi) hvl.1 (by have:=HN.out;omega))
      rw[← hlx,← hly]at hlb
      obtain⟨nx,hnx⟩: ∃z,z= -lx:=⟨_,rfl⟩
      obtain⟨ny,hny⟩: ∃z,z= -ly:=⟨_,rfl⟩
      have wx:wrap64 (-lx)=nx:=by rw[hnx];exact wrap_id _ (by omega) (by omega)
      have cO:IntKind.i64.wrap (-lx)=nx:=(i64_w _).trans wx
      have wy:wrap64 (-ly)=ny:=by rw[hny];exact wrap_id _ (by omega) (by omega)
      have cK:IntKind.i64.wrap (-ly)=ny:=(i64_w _).trans wy
      have p3:(vi<(nl:Int))=True:=eq_true hvl.2
      have HLX:=Aside0.mk (And.intro hlx (And.intro hly (And.intro hnx hny)))
      clear hlx hly hnx hny hlb hvl
      go_upto_region 22 with (fail)
      have HSF:=Aside0.mk (show∀w',w'.heap[gm]? =some (.cells #[vA,.int .i64 (mn:Int)] 137 (0,0))→Below W.heap.size W w'→(w'.cell? ⟨gm,0,none⟩=some vA∧w'.cell? (al.add (vi.toNat*2))=some (.int .i64 lx))from fun w' h1 h2=>⟨(blk_cell h1 0).trans rfl,(h2.cell (World.block_lt_of_cell? _ _ L0.out)).trans L0.out⟩)
      refine start_ (n:=19) (S:=fun w'=>w'.cell? ⟨gm,0,none⟩=some vA∧w'.cell? (al.add (vi.toNat*2))=some (.int .i64 lx)) (ds:=[18]) #[false,false,false,false,false,false,false,false,false,false,false,false,false,false,false,false,false,false,false] (by kernel_rfl) rfl rfl (HSF.out _ (blk_drew HK.out.1.gmb) (HK.out.1.bw.drew)) (fun hHeld=>?_)
      refine pure_ (i:=0) (N:=some 119) (v:=?_) (a':=?_) #[true,false,false,false,false,false,false,false,false,false,false,false,false,false,false,false,false,false,false] rfl rfl (by kernel_rfl) (fun _ _ _ h=>h) (Or.inl ⟨by rfl,?_⟩) ?_ ?_
      rotate_left
      ·intro w'
       go_simp
       with_reducible rfl
      rotate_left
      ·simp only[Act.put,List.setIfInBounds_toArray,List.set_cons_zero,List.set_cons_succ,i64_w,i32_w]
       rfl
      refine pure_ (i:=1) (N:=some 120) (v:=?_) (a':=?_) #[true,true,false,false,false,false,false,false,false,false,false,false,false,false,false,false,false,false,false] rfl rfl (by kernel_rfl) (fun _ _ _ h=>h) (Or.inl ⟨by rfl,?_⟩) ?_ ?_
      rotate_left
      ·intro w'
       go_simp
       with_reducible rfl
      rotate_left
      ·simp only[Act.put,List.setIfInBounds_toArray,List.set_cons_zero,List.set_cons_succ,i64_w,i32_w]
       rfl
      refine pure_ (i:=2) (N:=some 121) (v:=?_) (a':=?_) #[true,true,true,false,false,false,false,false,false,false,false,false,false,false,false,false,false,false,false] rfl rfl (by kernel_rfl) (fun _ _ _ h=>h) (Or.inl ⟨by rfl,?_⟩) ?_ ?_
      rotate_left
      ·intro w'
       go_simp
       with_reducible rfl
      rotate_left
      ·simp only[Act.put,List.setIfInBounds_toArray,List.set_cons_zero,List.set_cons_succ,i64_w,i32_w]
       rfl
      refine pure_ (i:=3) (N:=some 122) (v:=?_) (a':=?_) #[true,true,true,true,false,false,false,false,false,false,false,false,false,false,false,false,false,false,false] rfl rfl (by kernel_rfl) (fun _ _ _ h=>h) (Or.inl ⟨by rfl,?_⟩) ?_ ?_
      rotate_left
      ·intro w'
       go_simp
       with_reducible rfl
      rotate_left
      ·simp only[Act.put,List.setIfInBounds_toArray,List.set_cons_zero,List.set_cons_succ,i64_w,i32_w]
       rfl
      refine take_ (i:=4) (N:=some 123) (v:=?_) (a':=?_) #[true,true,true,true,true,false,false,false,false,false,false,false,false,false,false,false,false,false,false] rfl rfl (by kernel_rfl) (fun _ _ _ h=>h) (Or.inl ⟨by rfl,?_⟩) hHeld ?_ ?_
      rotate_left
      ·rintro w' ⟨s0,s1⟩
       go_simp
       with_reducible rfl
      rotate_left
      ·simp only[Act.put,List.setIfInBounds_toArray,List.set_cons_zero,List.set_cons_succ,i64_w,i32_w]
       rfl
      refine pure_ (i:=5) (N:=some 124) (v:=?_) (a':=?_) #[true,true,true,true,true,true,false,false,false,false,false,false,false,false,false,false,false,false,false] rfl rfl (by kernel_rfl) (fun _ _ _ h=>h) (Or.inl ⟨by rfl,?_⟩) ?_ ?_
      rotate_left
      ·intro w'
       go_simp
       with_reducible rfl
      rotate_left
      ·simp only[Act.put,List.setIfInBounds_toArray,List.set_cons_zero,List.set_cons_succ,i64_w,i32_w]
       rfl
      refine pure_ (i:=6) (N:=some 125) (v:=?_) (a':=?_) #[true,true,true,true,true,true,true,false,false,false,false,false,false,false,false,false,false,false,false] rfl rfl (by kernel_rfl) (fun _ _ _ h=>h) (Or.inl ⟨by rfl,?_⟩) ?_ ?_
      rotate_left
      ·intro w'
       go_simp
       with_reducible rfl
      rotate_left
      ·simp only[Act.put,List.setIfInBounds_toArray,List.set_cons_zero,List.set_cons_succ,i64_w,i32_w]
       rfl
      refine pure_ (i:=7) (N:=some 126) (v:=?_) (a':=?_) #[true,true,true,true,true,true,true,true,false,false,false,false,false,false,false,false,false,false,false] rfl rfl (by kernel_rfl) (fun _ _ _ h=>h) (Or.inl ⟨by rfl,?_⟩) ?_ ?_
      rotate_left
      ·intro w'
       go_simp
       with_reducible rfl
      rotate_left
      ·simp only[Act.put,List.setIfInBounds_toArray,List.set_cons_zero,List.set_cons_succ,i64_w,i32_w]
       rfl
      refine pure_ (i:=8) (N:=some 127) (v:=?_) (a':=?_) #[true,true,true,true,true,true,true,true,true,false,false,false,false,false,false,false,false,false,false] rfl rfl (by kernel_rfl) (fun _ _ _ h=>h) (Or.inl ⟨by rfl,?_⟩) ?_ ?_
      rotate_left
      ·intro w'
       go_simp
       with_reducible rfl
      rotate_left
      ·simp only[Act.put,List.setIfInBounds_toArray,List.set_cons_zero,List.set_cons_succ,i64_w,i32_w]
       rfl
      refine pure_ (i:=9) (N:=some 128) (v:=?_) (a':=?_) #[true,true,true,true,true,true,true,true,true,true,false,false,false,false,false,false,false,false,false] rfl rfl (by kernel_rfl) (fun _ _ _ h=>h) (Or.inl ⟨by rfl,?_⟩) ?_ ?_
      rotate_left
      ·intro w'
       go_simp
       with_reducible rfl
      rotate_left
      ·simp only[Act.put,List.setIfInBounds_toArray,List.set_cons_zero,List.set_cons_succ,i64_w,i32_w]
       rfl
      refine take_ (i:=10) (N:=some 129) (v:=?_) (a':=?_) #[true,true,true,true,true,true,true,true,true,true,true,false,false,false,false,false,false,false,false] rfl rfl (by kernel_rfl) (fun _ _ _ h=>h) (Or.inl ⟨by rfl,?_⟩) hHeld ?_ ?_
      rotate_left
      ·rintro w' ⟨s0,s1⟩
       go_simp
       with_reducible rfl
      rotate_left
      ·simp only[Act.put,List.setIfInBounds_toArray,List.set_cons_zero,List.set_cons_succ,i64_w,i32_w]
       rfl
      refine pure_ (i:=11) (N:=some 130) (v:=?_) (a':=?_) #[true,true,true,true,true,true,true,true,true,true,true,true,false,false,false,false,false,false,false] rfl rfl (by kernel_rfl) (fun _ _ _ h=>h) (Or.inl ⟨by rfl,?_⟩) ?_ ?_
      rotate_left
      ·intro w'
       go_simp
       with_reducible rfl
      rotate_left
      ·simp only[Act.put,List.setIfInBounds_toArray,List.set_cons_zero,List.set_cons_succ,i64_w,i32_w]
       rfl
      obtain⟨y1,aK⟩: ∃w1,Aside0 (w1=wr.drew):=⟨_,⟨rfl⟩⟩
      rw[← aK.out]
      rw[← aK.out]at hHeld
      have aN:=Aside0.mk (show TI W gm (2*(frU ks v).length) ml (mn:Int) vA b cc X y1∧Kd.R (Kd.int .i64) 2 y1 W.heap.size (fun _=>True) (.slice A9 xs.length c9) xs∧(RW2 W (2*(frU ks v).length) b (.slice A9 xs.length c9) (.slice aI ys.length c10) xs ys y1)from by rw[aK.out];exact⟨HK.out.1.drew,HK.out.2.drew.x,HK.out.2.drew⟩)
      clear aK
      refine one_ (i:=12) (N:=some 131) #[true,true,true,true,true,true,true,true,true,true,true,true,true,false,false,false,false,false,false] rfl rfl (by kernel_rfl) (by decide) (fun K hK=>?_)
      refine value_ (w1:=?_) (v:=?_) (by rfl) rfl ?_ ?_
      rotate_left 2
      ·go_simp
       constructor
       ·rfl
       ·rfl
      refine hK.out _ _ (HSF.out _ (blk_alloc aN.out.1.gmb _) (below_alloc aN.out.1.bw _)) (fun hHeld=>?_)
      clear hK K
      refine norm_ (a':=?_) ?_ ?_
      rotate_left
      ·show Act.put _ (some 131) _=_
       simp only[Act.put,List.setIfInBounds_toArray,List.set_cons_zero,List.set_cons_succ,i64_w,i32_w]
       rfl
      refine one_ (i:=13) (N:=some 132) #[true,true,true,true,true,true,true,true,true,true,true,true,true,true,false,false,false,false,false] rfl rfl (by kernel_rfl) (by decide) (fun K hK=>?_)
      refine Kd.R_append_step (Kd.int .i64) (w0:=W) W.heap.size (by rfl) (.tmp 124) (.tmp 131) 26 2 (.int .i64 0) 8 rfl Try.underlying26 info2 rfl (by decide) (by omega) (.slice A9 xs.length c9) xs nx [.int .i64 nx] (fun _=>True) (fun _=>False) rfl (by first|rfl|(go_simp;done)) ?aP (fun _ hk=>hk.elim) (fun _ _=>trivial) ?aO ?aB ?aS ?aL ?_
      (case aP=>exact rfl)
      (case aO=>exact aN.out.2.1)
      (case aB=>exact aN.out.1.bw)
      (case aS=>exact aN.out.1.bw.size)
      (case aL=>have:=HLEN.out;omega)
      intro yv y5 ho hb hg hat
      obtain⟨yA,yc,hv_⟩:=Kd.R_slice ho
      rw[show(xs ++ [nx]).length=ml from by have:=HLEN.out;have:=HG.out.2;simp;omega]at hv_
      subst hv_
      have aE:=Aside0.mk (show TI W gm (2*(frU ks v).length) ml (mn:Int) vA b cc X y5∧Kd.R (Kd.int .i64) 2 y5 W.heap.size (fun _=>True) (.slice yA ml yc) (xs ++ [nx])∧RW2 W (2*(frU ks v).length) b (.slice yA ml yc) (.slice aI ys.length c10) (xs ++ [nx]) ys y5 from⟨aN.out.1.grown aN.out.2.1 (fun k hk=>(aN.out.2.2.ax k hk).2) hg hb,ho,aN.out.2.2.growX aN.out.1.rows_lt ho hg hat⟩)
      clear ho hb hg hat
      refine hK.out _ _ (HSF.out _ aE.out.1.gmb aE.out.1.bw) (fun hHeld=>?_)
      clear hK K
      refine norm_ (a':=?_) ?_ ?_
      rotate_left
      ·show Act.put _ (some 132) _=_
       simp only[Act.put,List.setIfInBounds_toArray,List.set_cons_zero,List.set_cons_succ,i64_w,i32_w]
       rfl
      refine one_ (i:=14) (N:=some 133) #[true,true,true,true,true,true,true,true,true,true,true,true,true,true,true,false,false,false,false] rfl rfl (by kernel_rfl) (by decide) (fun K hK=>?_)
      refine value_ (w1:=?_) (v:=?_) (by rfl) rfl ?_ ?_
      rotate_left 2
      ·go_simp
       constructor
       ·rfl
       ·rfl
      refine hK.out _ _ (HSF.out _ (blk_alloc aE.out.1.gmb _) (below_alloc aE.out.1.bw _)) (fun hHeld=>?_)
      clear hK K
      refine norm_ (a':=?_) ?_ ?_
      rotate_left
      ·show Act.put _ (some 133) _=_
       simp only[Act.put,List.setIfInBounds_toArray,List.set_cons_zero,List.set_cons_succ,i64_w,i32_w]
       rfl
      refine one_ (i:=15) (N:=some 134) #[true,true,true,true,true,true,true,true,true,true,true,true,true,true,true,true,false,false,false] rfl rfl (by kernel_rfl) (by decide) (fun K hK=>?_)
      refine Kd.R_append_step (Kd.raw 1) (w0:=W) W.heap.size (by rfl) (.tmp 123) (.tmp 133) 135 26 (.slice none 0 0) 24 rfl Try.underlying135 info26 rfl (by decide) (by omega) vA ((List.range (2*(frU ks v).length)).map fun i=>[Value.slice (some ⟨b i,0,none⟩) ml (cc i)]) [.slice yA ml yc] [.slice yA ml yc] (fun _=>True) (fun _=>False) rfl (by first|rfl|(go_simp;done)) ?aP (fun _ hk=>hk.elim) (fun _ _=>trivial) ?aO ?aB ?aS ?aL ?_
      (case aP=>exact⟨rfl,rfl,fun u hu=>by rw[List.mem_singleton.1 hu];rfl⟩)
      (case aO=>exact aE.out.1.hd)
      (case aB=>exact aE.out.1.bw)
      (case aS=>exact aE.out.1.bw.size)
      (case aL=>have:=frU_le ks v;have:=C2.out;have:=HN.out;have:=H0.out.k8;simp;omega)
      intro yu y6 ho hb hg _
      obtain⟨yuA,yuc,hv_⟩:=Kd.R_slice ho
      rw[show(((List.range (2*(frU ks v).length)).map fun i=>[Value.slice (some ⟨b i,0,none⟩) ml (cc i)]) ++ [[Value.slice yA ml yc]]).length=(2*(frU ks v).length)+1 from by simp]at hv_
      subst hv_
      have aH:=blk_grown aE.out.1.gmb hg (fun e=>Kd.R_ne aE.out.1.hd aE.out.1.gmb (by decide) e)
      have aY:=Aside0.mk (And.intro ho (And.intro hb hg))
      clear ho hb hg
      refine hK.out _ _ (HSF.out _ aH aY.out.2.1) (fun hHeld=>?_)
      clear hK K
      refine norm_ (a':=?_) ?_ ?_
      rotate_left
      ·show Act.put _ (some 134) _=_
       simp only[Act.put,List.setIfInBounds_toArray,List.set_cons_zero,List.set_cons_succ,i64_w,i32_w]
       rfl
      refine pure_ (i:=16) (N:=some 135) (v:=?_) (a':=?_) #[true,true,true,true,true,true,true,true,true,true,true,true,true,true,true,true,true,false,false] rfl rfl (by kernel_rfl) (fun _ _ _ h=>h) (Or.inl ⟨by rfl,?_⟩) ?_ ?_
      rotate_left
      ·intro w'
       go_simp
       with_reducible rfl
      rotate_left
      ·simp only[Act.put,List.setIfInBounds_toArray,List.set_cons_zero,List.set_cons_succ,i64_w,i32_w]
       rfl
      refine pure_ (i:=17) (N:=some 136) (v:=?_) (a':=?_) #[true,true,true,true,true,true,true,true,true,true,true,true,true,true,true,true,true,true,false] rfl rfl (by kernel_rfl) (fun _ _ _ h=>h) (Or.inl ⟨by rfl,?_⟩) ?_ ?_
      rotate_left
      ·intro w'
       go_simp
       with_reducible rfl
      rotate_left
      ·simp only[Act.put,List.setIfInBounds_toArray,List.set_cons_zero,List.set_cons_succ,i64_w,i32_w]
       rfl
      have bE:=hHeld.1
      have bA:=blk_frozen aH 0
      clear aH
      refine last_ (i:=18) (N:=none) #[true,true,true,true,true,true,true,true,true,true,true,true,true,true,true,true,true,true,true] rfl rfl (by kernel_rfl) (by decide) (fun K hK=>?_)
      refine skip_ (w1:=?_) (by rfl) rfl ?_ ?_
      rotate_left
      ·go_simp
       rfl
      refine hK.out _ _ ?_
      clear hK K
      refine done_ (by kernel_rfl) ?_
      clear bE bA hHeld HSF
      obtain⟨y7,aR⟩: ∃w7,Aside0 (w7=y6.setCell ⟨gm,0,none⟩ (.slice yuA ((2*(frU ks v).length)+1) yuc)):=⟨_,⟨rfl⟩⟩
      rw[← aR.out]
      obtain⟨bk,bD,_,_,hTI⟩:=aE.out.1.push aE.out.2.1 (by have:=HLEN.out;have:=HG.out.2;simp;omega) (by have:=HG.out.2;omega) (fun k hk=>(aE.out.2.2.ax k hk).2) aY.out.1 aY.out.2.1 aY.out.2.2
      rw[← aR.out]at hTI
      obtain⟨b2,bP⟩: ∃z,z=upd b (2*(frU ks v).length) bk:=⟨_,rfl⟩
      obtain⟨bC,bG⟩: ∃z,z=upd cc (2*(frU ks v).length) yc:=⟨_,rfl⟩
      obtain⟨X2,bM⟩: ∃z,z=upd X (2*(frU ks v).length) (fun j=>rd (xs ++ [nx]) j):=⟨_,rfl⟩
      rw[← bP,← bG,← bM]at hTI
      have cD:=Aside0.mk bM
      have HZ:=Aside0.mk (show TI W gm (2*(frU ks v).length+1) ml (mn:Int) (.slice yuA (2*(frU ks v).length+1) yuc) b2 bC X2 y7∧Kd.R (Kd.int .i64) 2 y7 W.heap.size (fun _=>True) (.slice aI ys.length c10) ys∧(∀k,(Value.slice aI ys.length c10).ownBlock=some k→ ∀i,i<2*(frU ks v).length+1→b2 i≠k)from by
       refine⟨hTI,by rw[aR.out];exact aE.out.1.side aE.out.2.2.y aY.out.2.2 _,fun k hk i hi e=>?_⟩
       rw[bP]at e
       by_cases h:i=2*(frU ks v).length
       ·rw[h,upd_same]at e
        exact(aE.out.2.2.ax k (by rw[bD,← e];rfl)).1 hk
       ·rw[upd_ne _ _ h]at e
        exact aE.out.2.2.ay k hk i (by omega) e)
      clear bP bG bM hTI aR aN aE aY HK bD
      go_upto_region 23 with (fail)
      have HSF:=Aside0.mk (show∀w',w'.heap[gm]? =some (.cells #[(.slice yuA (2*(frU ks v).length+1) yuc),.int .i64 (mn:Int)] 137 (0,0))→Below W.heap.size W w'→(w'.cell? ⟨gm,0,none⟩=some (.slice yuA (2*(frU ks v).length+1) yuc)∧w'.cell? ⟨(al.add (vi.toNat*2)).block,(al.add (vi.toNat*2)).off+1,none⟩=some (.int .i64 ly))from fun w' h1 h2=>⟨(blk_cell h1 0).trans rfl,(h2.cell (World.block_lt_of_cell? _ _ L1.out)).trans L1.out⟩)
      refine start_ (n:=19) (S:=fun w'=>w'.cell? ⟨gm,0,none⟩=some (.slice yuA (2*(frU ks v).length+1) yuc)∧w'.cell? ⟨(al.add (vi.toNat*2)).block,(al.add (vi.toNat*2)).off+1,none⟩=some (.int .i64 ly)) (ds:=[18]) #[false,false,false,false,false,false,false,false,false,false,false,false,false,false,false,false,false,false,false] (by kernel_rfl) rfl rfl (HSF.out _ (blk_drew HZ.out.1.gmb) (HZ.out.1.bw.drew)) (fun hHeld=>?_)
      refine pure_ (i:=0) (N:=some 137) (v:=?_) (a':=?_) #[true,false,false,false,false,false,false,false,false,false,false,false,false,false,false,false,false,false,false] rfl rfl (by kernel_rfl) (fun _ _ _ h=>h) (Or.inl ⟨by rfl,?_⟩) ?_ ?_
      rotate_left
      ·intro w'
       go_simp
       with_reducible rfl
      rotate_left
      ·simp only[Act.put,List.setIfInBounds_toArray,List.set_cons_zero,List.set_cons_succ,i64_w,i32_w]
       rfl
      refine pure_ (i:=1) (N:=some 138) (v:=?_) (a':=?_) #[true,true,false,false,false,false,false,false,false,false,false,false,false,false,false,false,false,false,false] rfl rfl (by kernel_rfl) (fun _ _ _ h=>h) (Or.inl ⟨by rfl,?_⟩) ?_ ?_
      rotate_left
      ·intro w'
       go_simp
       with_reducible rfl
      rotate_left
      ·simp only[Act.put,List.setIfInBounds_toArray,List.set_cons_zero,List.set_cons_succ,i64_w,i32_w]
       rfl
      refine pure_ (i:=2) (N:=some 139) (v:=?_) (a':=?_) #[true,true,true,false,false,false,false,false,false,false,false,false,false,false,false,false,false,false,false] rfl rfl (by kernel_rfl) (fun _ _ _ h=>h) (Or.inl ⟨by rfl,?_⟩) ?_ ?_
      rotate_left
      ·intro w'
       go_simp
       with_reducible rfl
      rotate_left
      ·simp only[Act.put,List.setIfInBounds_toArray,List.set_cons_zero,List.set_cons_succ,i64_w,i32_w]
       rfl
      refine pure_ (i:=3) (N:=some 140) (v:=?_) (a':=?_) #[true,true,true,true,false,false,false,false,false,false,false,false,false,false,false,false,false,false,false] rfl rfl (by kernel_rfl) (fun _ _ _ h=>h) (Or.inl ⟨by rfl,?_⟩) ?_ ?_
      rotate_left
      ·intro w'
       go_simp
       with_reducible rfl
      rotate_left
      ·simp only[Act.put,List.setIfInBounds_toArray,List.set_cons_zero,List.set_cons_succ,i64_w,i32_w]
       rfl
      refine take_ (i:=4) (N:=some 141) (v:=?_) (a':=?_) #[true,true,true,true,true,false,false,false,false,false,false,false,false,false,false,false,false,false,false] rfl rfl (by kernel_rfl) (fun _ _ _ h=>h) (Or.inl ⟨by rfl,?_⟩) hHeld ?_ ?_
      rotate_left
      ·rintro w' ⟨s0,s1⟩
       go_simp
       with_reducible rfl
      rotate_left
      ·simp only[Act.put,List.setIfInBounds_toArray,List.set_cons_zero,List.set_cons_succ,i64_w,i32_w]
       rfl
      refine pure_ (i:=5) (N:=some 142) (v:=?_) (a':=?_) #[true,true,true,true,true,true,false,false,false,false,false,false,false,false,false,false,false,false,false] rfl rfl (by kernel_rfl) (fun _ _ _ h=>h) (Or.inl ⟨by rfl,?_⟩) ?_ ?_
      rotate_left
      ·intro w'
       go_simp
       with_reducible rfl
      rotate_left
      ·simp only[Act.put,List.setIfInBounds_toArray,List.set_cons_zero,List.set_cons_succ,i64_w,i32_w]
       rfl
      refine pure_ (i:=6) (N:=some 143) (v:=?_) (a':=?_) #[true,true,true,true,true,true,true,false,false,false,false,false,false,false,false,false,false,false,false] rfl rfl (by kernel_rfl) (fun _ _ _ h=>h) (Or.inl ⟨by rfl,?_⟩) ?_ ?_
      rotate_left
      ·intro w'
       go_simp
       with_reducible rfl
      rotate_left
      ·simp only[Act.put,List.setIfInBounds_toArray,List.set_cons_zero,List.set_cons_succ,i64_w,i32_w]
       rfl
      refine pure_ (i:=7) (N:=some 144) (v:=?_) (a':=?_) #[true,true,true,true,true,true,true,true,false,false,false,false,false,false,false,false,false,false,false] rfl rfl (by kernel_rfl) (fun _ _ _ h=>h) (Or.inl ⟨by rfl,?_⟩) ?_ ?_
      rotate_left
      ·intro w'
       go_simp
       with_reducible rfl
      rotate_left
      ·simp only[Act.put,List.setIfInBounds_toArray,List.set_cons_zero,List.set_cons_succ,i64_w,i32_w]
       rfl
      refine pure_ (i:=8) (N:=some 145) (v:=?_) (a':=?_) #[true,true,true,true,true,true,true,true,true,false,false,false,false,false,false,false,false,false,false] rfl rfl (by kernel_rfl) (fun _ _ _ h=>h) (Or.inl ⟨by rfl,?_⟩) ?_ ?_
      rotate_left
      ·intro w'
       go_simp
       with_reducible rfl
      rotate_left
      ·simp only[Act.put,List.setIfInBounds_toArray,List.set_cons_zero,List.set_cons_succ,i64_w,i32_w]
       rfl
      refine pure_ (i:=9) (N:=some 146) (v:=?_) (a':=?_) #[true,true,true,true,true,true,true,true,true,true,false,false,false,false,false,false,false,false,false] rfl rfl (by kernel_rfl) (fun _ _ _ h=>h) (Or.inl ⟨by rfl,?_⟩) ?_ ?_
      rotate_left
      ·intro w'
       go_simp
       with_reducible rfl
      rotate_left
      ·simp only[Act.put,List.setIfInBounds_toArray,List.set_cons_zero,List.set_cons_succ,i64_w,i32_w]
       rfl
      refine take_ (i:=10) (N:=some 147) (v:=?_) (a':=?_) #[true,true,true,true,true,true,true,true,true,true,true,false,false,false,false,false,false,false,false] rfl rfl (by kernel_rfl) (fun _ _ _ h=>h) (Or.inl ⟨by rfl,?_⟩) hHeld ?_ ?_
      rotate_left
      ·rintro w' ⟨s0,s1⟩
       go_simp
       with_reducible rfl
      rotate_left
      ·simp only[Act.put,List.setIfInBounds_toArray,List.set_cons_zero,List.set_cons_succ,i64_w,i32_w]
       rfl
      refine pure_ (i:=11) (N:=some 148) (v:=?_) (a':=?_) #[true,true,true,true,true,true,true,true,true,true,true,true,false,false,false,false,false,false,false] rfl rfl (by kernel_rfl) (fun _ _ _ h=>h) (Or.inl ⟨by rfl,?_⟩) ?_ ?_
      rotate_left
      ·intro w'
       go_simp
       with_reducible rfl
      rotate_left
      ·simp only[Act.put,List.setIfInBounds_toArray,List.set_cons_zero,List.set_cons_succ,i64_w,i32_w]
       rfl
      obtain⟨z1,aK⟩: ∃w1,Aside0 (w1=y7.drew):=⟨_,⟨rfl⟩⟩
      rw[← aK.out]
      rw[← aK.out]at hHeld
      have aQ:=Aside0.mk (show TI W gm (2*(frU ks v).length+1) ml (mn:Int) (.slice yuA (2*(frU ks v).length+1) yuc) b2 bC X2 z1∧Kd.R (Kd.int .i64) 2 z1 W.heap.size (fun _=>True) (.slice aI ys.length c10) ys∧(∀k,(Value.slice aI ys.length c10).ownBlock=some k→ ∀i,i<2*(frU ks v).length+1→b2 i≠k)from by rw[aK.out];exact⟨HZ.out.1.drew,Kd.R_drew HZ.out.2.1,HZ.out.2.2⟩)
      clear aK
      refine one_ (i:=12) (N:=some 149) #[true,true,true,true,true,true,true,true,true,true,true,true,true,false,false,false,false,false,false] rfl rfl (by kernel_rfl) (by decide) (fun K hK=>?_)
      refine value_ (w1:=?_) (v:=?_) (by rfl) rfl ?_ ?_
      rotate_left 2
      ·go_simp
       constructor
       ·rfl
       ·rfl
      refine hK.out _ _ (HSF.out _ (blk_alloc aQ.out.1.gmb _) (below_alloc aQ.out.1.bw _)) (fun hHeld=>?_)
      clear hK K
      refine norm_ (a':=?_) ?_ ?_
      rotate_left
      ·show Act.put _ (some 149) _=_
       simp only[Act.put,List.setIfInBounds_toArray,List.set_cons_zero,List.set_cons_succ,i64_w,i32_w]
       rfl
      refine one_ (i:=13) (N:=some 150) #[true,true,true,true,true,true,true,true,true,true,true,true,true,true,false,false,false,false,false] rfl rfl (by kernel_rfl) (by decide) (fun K hK=>?_)
      refine Kd.R_append_step (Kd.int .i64) (w0:=W) W.heap.size (by rfl) (.tmp 142) (.tmp 149) 26 2 (.int .i64 0) 8 rfl Try.underlying26 info2 rfl (by decide) (by omega) (.slice aI ys.length c10) ys ny [.int .i64 ny] (fun _=>True) (fun _=>False) rfl (by first|rfl|(go_simp;done)) ?aP (fun _ hk=>hk.elim) (fun _ _=>trivial) ?aO ?aB ?aS ?aL ?_
      (case aP=>exact rfl)
      (case aO=>exact aQ.out.2.1)
      (case aB=>exact aQ.out.1.bw)
      (case aS=>exact aQ.out.1.bw.size)
      (case aL=>have:=HLEN.out;omega)
      intro zv z5 ho hb hg hat
      obtain⟨zA,zc,hv_⟩:=Kd.R_slice ho
      rw[show(ys ++ [ny]).length=ml from by have:=HLEN.out;have:=HG.out.2;simp;omega]at hv_
      subst hv_
      have aJ:=Aside0.mk (show TI W gm (2*(frU ks v).length+1) ml (mn:Int) (.slice yuA (2*(frU ks v).length+1) yuc) b2 bC X2 z5∧Kd.R (Kd.int .i64) 2 z5 W.heap.size (fun _=>True) (.slice zA ml zc) (ys ++ [ny])∧(∀k,(Value.slice zA ml zc).ownBlock=some k→ ∀i,i<2*(frU ks v).length+1→b2 i≠k)from by
       refine⟨aQ.out.1.grown aQ.out.2.1 aQ.out.2.2 hg hb,ho,fun k hk i hi=>?_⟩
       rcases hat with e|⟨b',e,hb'⟩
       ·exact aQ.out.2.2 k (e▸hk) i hi
       ·rw[e]at hk;injection hk with hk;intro z;have:=aQ.out.1.rows_lt i hi;omega)
      clear ho hb hg hat
      refine hK.out _ _ (HSF.out _ aJ.out.1.gmb aJ.out.1.bw) (fun hHeld=>?_)
      clear hK K
      refine norm_ (a':=?_) ?_ ?_
      rotate_left
      ·show Act.put _ (some 150) _=_
       simp only[Act.put,List.setIfInBounds_toArray,List.set_cons_zero,List.set_cons_succ,i64_w,i32_w]
       rfl
      refine one_ (i:=14) (N:=some 151) #[true,true,true,true,true,true,true,true,true,true,true,true,true,true,true,false,false,false,false] rfl rfl (by kernel_rfl) (by decide) (fun K hK=>?_)
      refine value_ (w1:=?_) (v:=?_) (by rfl) rfl ?_ ?_
      rotate_left 2
      ·go_simp
       constructor
       ·rfl
       ·rfl
      refine hK.out _ _ (HSF.out _ (blk_alloc aJ.out.1.gmb _) (below_alloc aJ.out.1.bw _)) (fun hHeld=>?_)
      clear hK K
      refine norm_ (a':=?_) ?_ ?_
      rotate_left
      ·show Act.put _ (some 151) _=_
       simp only[Act.put,List.setIfInBounds_toArray,List.set_cons_zero,List.set_cons_succ,i64_w,i32_w]
       rfl
      refine one_ (i:=15) (N:=some 152) #[true,true,true,true,true,true,true,true,true,true,true,true,true,true,true,true,false,false,false] rfl rfl (by kernel_rfl) (by decide) (fun K hK=>?_)
      refine Kd.R_append_step (Kd.raw 1) (w0:=W) W.heap.size (by rfl) (.tmp 141) (.tmp 151) 135 26 (.slice none 0 0) 24 rfl Try.underlying135 info26 rfl (by decide) (by omega) (.slice yuA (2*(frU ks v).length+1) yuc) ((List.range (2*(frU ks v).length+1)).map fun i=>[Value.slice (some ⟨b2 i,0,none⟩) ml (bC i)]) [.slice zA ml zc] [.slice zA ml zc] (fun _=>True) (fun _=>False) rfl (by first|rfl|(go_simp;done)) ?aP (fun _ hk=>hk.elim) (fun _ _=>trivial) ?aO ?aB ?aS ?aL ?_
      (case aP=>exact⟨rfl,rfl,fun u hu=>by rw[List.mem_singleton.1 hu];rfl⟩)
      (case aO=>exact aJ.out.1.hd)
      (case aB=>exact aJ.out.1.bw)
      (case aS=>exact aJ.out.1.bw.size)
      (case aL=>have:=frU_le ks v;have:=C2.out;have:=HN.out;have:=H0.out.k8;simp;omega)
      intro zu z6 ho hb hg _
      obtain⟨zuA,zuc,hv_⟩:=Kd.R_slice ho
      rw[show(((List.range (2*(frU ks v).length+1)).map fun i=>[Value.slice (some ⟨b2 i,0,none⟩) ml (bC i)]) ++ [[Value.slice zA ml zc]]).length=(2*(frU ks v).length+1)+1 from by simp]at hv_
      subst hv_
      have aH:=blk_grown aJ.out.1.gmb hg (fun e=>Kd.R_ne aJ.out.1.hd aJ.out.1.gmb (by decide) e)
      have bF:=Aside0.mk (And.intro ho (And.intro hb hg))
      clear ho hb hg
      refine hK.out _ _ (HSF.out _ aH bF.out.2.1) (fun hHeld=>?_)
      clear hK K
      refine norm_ (a':=?_) ?_ ?_
      rotate_left
      ·show Act.put _ (some 152) _=_
       simp only[Act.put,List.setIfInBounds_toArray,List.set_cons_zero,List.set_cons_succ,i64_w,i32_w]
       rfl
      refine pure_ (i:=16) (N:=some 153) (v:=?_) (a':=?_) #[true,true,true,true,true,true,true,true,true,true,true,true,true,true,true,true,true,false,false] rfl rfl (by kernel_rfl) (fun _ _ _ h=>h) (Or.inl ⟨by rfl,?_⟩) ?_ ?_
      rotate_left
      ·intro w'
       go_simp
       with_reducible rfl
      rotate_left
      ·simp only[Act.put,List.setIfInBounds_toArray,List.set_cons_zero,List.set_cons_succ,i64_w,i32_w]
       rfl
      refine pure_ (i:=17) (N:=some 154) (v:=?_) (a':=?_) #[true,true,true,true,true,true,true,true,true,true,true,true,true,true,true,true,true,true,false] rfl rfl (by kernel_rfl) (fun _ _ _ h=>h) (Or.inl ⟨by rfl,?_⟩) ?_ ?_
      rotate_left
      ·intro w'
       go_simp
       with_reducible rfl
      rotate_left
      ·simp only[Act.put,List.setIfInBounds_toArray,List.set_cons_zero,List.set_cons_succ,i64_w,i32_w]
       rfl
      have bE:=hHeld.1
      have bA:=blk_frozen aH 0
      clear aH
      refine last_ (i:=18) (N:=none) #[true,true,true,true,true,true,true,true,true,true,true,true,true,true,true,true,true,true,true] rfl rfl (by kernel_rfl) (by decide) (fun K hK=>?_)
      refine skip_ (w1:=?_) (by rfl) rfl ?_ ?_
      rotate_left
      ·go_simp
       rfl
      refine hK.out _ _ ?_
      clear hK K
      refine done_ (by kernel_rfl) ?_
      clear bE bA hHeld HSF
      obtain⟨z7,aR⟩: ∃w7,Aside0 (w7=z6.setCell ⟨gm,0,none⟩ (.slice zuA ((2*(frU ks v).length+1)+1) zuc)):=⟨_,⟨rfl⟩⟩
      rw[← aR.out]
      obtain⟨cM,_,_,_,hTI⟩:=aJ.out.1.push aJ.out.2.1 (by have:=HLEN.out;have:=HG.out.2;simp;omega) (by have:=HG.out.2;omega) aJ.out.2.2 bF.out.1 bF.out.2.1 bF.out.2.2
      rw[← aR.out]at hTI
      have cG:=Aside0.mk hTI
      clear hTI aR aQ aJ bF HZ
      go_wp2_with (fail)
      go_roundg gq
      case measure=>omega
      case rel=>
       have h1:=HA.out;have h2:=C2.out;have h3:=H0.out.k8;have h4:=HN.out
       have hw:=wrap_id (vi+1) (by omega) (by omega)
       have hvk:v<ks.length:=by omega
       have hfu:=frU_succ ks v
       rw[HF.out,if_neg (by simp)]at hfu
       have bW:2*(frU ks (v+1)).length=2*(frU ks v).length+1+1:=by rw[hfu];simp;omega
       refine⟨v+1,vi+1,_,_,_,_,by rw[hw],⟨by omega,by omega,by omega⟩,⟨by rw[bW];exact cG.out⟩,⟨fun i j' hi hj=>?_⟩⟩
       rw[bW]at hi
       have hml:=HG.out.2
       have bY:=C4.out
       by_cases e1:i=2*(frU ks v).length+1
       ·subst e1
        rw[upd_same,tblM_row bs ld bars hvk HF.out 1 j' (by omega),HL.out.2,bY,row_at _ _ _ _ (by omega),HLX.out.2.2.2,HLX.out.2.1,h1.1,← h4.1,if_neg (show¬(1:Nat)=0 from by decide)]
       ·rw[upd_ne _ _ e1,cD.out]
        by_cases e2:i=2*(frU ks v).length
        ·subst e2
         have ht:=tblM_row bs ld bars hvk HF.out 0 j' (by omega)
         rw[Nat.add_zero]at ht
         rw[upd_same,ht,HL.out.1,bY,row_at _ _ _ _ (by omega),HLX.out.2.2.1,HLX.out.1,h1.1,← h4.1,if_pos (show(0:Nat)=0 from rfl)]
        ·rw[upd_ne _ _ e2]
         exact HX.out i j' (by omega) hj
  ·have hvn:v=nk:=by have:=HA.out;omega
   have hvN:v=ks.length:=by have:=HN.out;omega
   have d1:decide (vi<(nk:Int))=false:=decide_eq_false (by have:=HA.out;omega)
   have HVN:=Aside0.mk hvN
   clear c2 hvn hvN
   go_wp2_with (fail)
   go_ret
   obtain⟨g,A,cap,hv,hA,hTB⟩:=HI.out.tb
   have hml:=HG.out.2
   have hN:=HN.out.1
   have hfr:frU ks v=frI ks:=by unfold frI;rw[← HVN.out]
   have gmb:=HI.out.gmb
   rw[hv]at gmb
   rw[hfr]at gmb hA hTB
   rw[hN]at gmb
   rw[hml,hN]at hTB
   refine⟨gm,g,cap,A,b,cc,rfl,gmb,hA,⟨hTB.hd,fun i hi=>?_,hTB.inj,hTB.ne,hTB.bg,hTB.bb⟩,HI.out.bw⟩
   obtain⟨cs,h1,h2⟩:=hTB.rw i hi
   exact⟨cs,h1,fun j hj=>by rw[h2 j hj,HX.out i j (by rw[hfr];exact hi) (by rw[hml,hN];exact hj)]⟩
end
end Go.Proofs.Ytebbdadpgapobaa.HEl
