-- Written by a program for this claim (the functions that the statement reaches, and that the program's code comes to them).
import Derived.Test.YtebbdadpgapobaaHElx0
import Derived.Test.YtebbdadpgapobaaHElx2
import Derived.Test.YtebbdadpgapobaaHElx5
import Derived.Test.YtebbdadpgapobaaHElx6
import Derived.Test.YtebbdadpgapobaaHElx7
import Derived.Test.YtebbdadpgapobaaHElx8
import Derived.Test.YtebbdadpgapobaaHElx13
namespace Go.Proofs.Ytebbdadpgapobaa.HEl
open Go.RowKit Go.Proofs.YtebbdadpgapobaaW.PrintWords Go.Proofs.YtebbdadpgapobaaW.PrintLast Go.Proofs.YtebbdadpgapobaaW.PrintMore
attribute [local go_sem] max2_int min2_int max_two min_two max_three min_three max_four min_four
set_option linter.unusedVariables false
set_option linter.unusedSimpArgs false
/-! ### impl_solveBars: function 64 (by hand) -/
def slvI (nb:Nat) (bars:List Int) (X:Nat→Int):Nat→List Int
 |0=>List.replicate nb 0
 |i+1=>(slvI nb bars X i).set (rd bars (i:Int)).toNat (X i)
theorem slvI_len (nb:Nat) (bars:List Int) (X:Nat→Int): ∀i,(slvI nb bars X i).length=nb
 |0=>by simp[slvI]
 |i+1=>by rw[slvI,List.length_set,slvI_len nb bars X i]
open Go.Proofs.Ytebbdadpgapobaa.Elim in
def impl_solveBars.f (ks:List S90) (bs:List S104) (ld:List S76) (bars:List Int):Option (List Int×Int×Bool):=
 if TOk ks bs ld bars then
  (if(El (2*(frI ks).length) (tblM ks bs ld bars) bars.length).t<bars.length then some ([],0,false)
   else(if∀i,bars.length≤i→i<2*(frI ks).length→(El (2*(frI ks).length) (tblM ks bs ld bars) bars.length).M i bars.length=0 then
    some (slvI bs.length bars (fun c=>(Qr (El (2*(frI ks).length) (tblM ks bs ld bars) bars.length).M (El (2*(frI ks).length) (tblM ks bs ld bars) bars.length).d c bars.length).num*(lcmD (fun c=>((Qr (El (2*(frI ks).length) (tblM ks bs ld bars) bars.length).M (El (2*(frI ks).length) (tblM ks bs ld bars) bars.length).d c bars.length).den:Int)) bars.length / ((Qr (El (2*(frI ks).length) (tblM ks bs ld bars) bars.length).M (El (2*(frI ks).length) (tblM ks bs ld bars) bars.length).d c bars.length).den:Int))) bars.length,
     lcmD (fun c=>((Qr (El (2*(frI ks).length) (tblM ks bs ld bars) bars.length).M (El (2*(frI ks).length) (tblM ks bs ld bars) bars.length).d c bars.length).den:Int)) bars.length,true)
    else some ([],0,false)))
 else none
section
open Go.Proofs.Ytebbdadpgapobaa.Lib
theorem rd_map (f:Nat→Int) {m i:Nat} (h:i<m):rd ((List.range m).map f) (i:Int)=f i:=by
 unfold rd
 rw[Int.toNat_natCast,List.getD_eq_getElem?_getD,List.getElem?_map,List.getElem?_range h];rfl
theorem cont_no (f:Nat→Int) {m:Nat} (hm:m≤1000): ∀(d i:Nat),i+d=m→(∀j,i≤j→j<m→f j≠ -1)→Ev (fun k=>slices_Index_int_int.l0 k ((List.range m).map f) (-1) (((List.range m).map f).length:Int) (i:Int)) (-1)
 |0,i,hd,h=>by
  refine ev_succ ?_;simp only[slices_Index_int_int.l0]
  exact ev_neg (by simp;omega) (Ev.now _)
 |d+1,i,hd,h=>by
  refine ev_succ ?_;simp only[slices_Index_int_int.l0]
  rw[rd_map f (by omega),w64s (i:=i) (by omega)]
  exact ev_pos (by simp;omega) (ev_pos (by omega) (ev_pos (by simp;omega) (ev_neg (fun z=>h i (Nat.le_refl _) (by omega) z.symm) (cont_no f hm d (i+1) (by omega) (fun j h1 h2=>h j (by omega) h2)))))
theorem cont_yes (f:Nat→Int) {m:Nat} (hm:m≤1000): ∀(d i:Nat),i+d=m→(∃j,i≤j∧j<m∧f j= -1)→ ∃r,0≤r∧Ev (fun k=>slices_Index_int_int.l0 k ((List.range m).map f) (-1) (((List.range m).map f).length:Int) (i:Int)) r
 |0,i,hd,⟨j,h1,h2,_⟩=>absurd h2 (by omega)
 |d+1,i,hd,⟨j,h1,h2,h3⟩=>by
  by_cases e:f i= -1
  ·refine⟨(i:Int),by omega,ev_succ ?_⟩;simp only[slices_Index_int_int.l0]
   rw[rd_map f (by omega)]
   exact ev_pos (by simp;omega) (ev_pos (by omega) (ev_pos (by simp;omega) (ev_pos e.symm (Ev.now _))))
  ·obtain⟨r,hr,he⟩:=cont_yes f hm d (i+1) (by omega) ⟨j,by rcases Nat.lt_or_ge i j with g|g;omega;exact absurd (show f i= -1 by rw[show i=j by omega];exact h3) e,h2,h3⟩
   refine⟨r,hr,ev_succ ?_⟩;simp only[slices_Index_int_int.l0]
   rw[rd_map f (by omega),w64s (i:=i) (by omega)]
   exact ev_pos (by simp;omega) (ev_pos (by omega) (ev_pos (by simp;omega) (ev_neg (fun z=>e z.symm) he)))
theorem cont (f:Nat→Int) {m:Nat} (hm:m≤1000) (b:Bool) (h:b=true↔ ∃j,j<m∧f j= -1): ∃k,slices_Contains_int_int.f k ((List.range m).map f) (-1)=some b:=by
 cases b with
 |true=>
  obtain⟨j,h1,h2⟩:=h.1 rfl
  obtain⟨r,hr,K,he⟩:=cont_yes f hm m 0 (by omega) ⟨j,Nat.zero_le _,h1,h2⟩
  refine⟨K,?_⟩
  have e:=he K (Nat.le_refl _)
  show(slices_Index_int_int.f K _ _).bind _=_
  unfold slices_Index_int_int.f
  show(slices_Index_int_int.l0 K _ _ _ ((0:Nat):Int)).bind _=_
  have e:slices_Index_int_int.l0 K ((List.range m).map f) (-1) (((List.range m).map f).length:Int) ((0:Nat):Int)=some r:=e
  rw[e]
  show some (decide (r≥0))=_
  rw[decide_eq_true hr]
 |false=>
  obtain⟨K,he⟩:=cont_no f hm m 0 (by omega) (fun j _ h1 h2=>by have:=h.2 ⟨j,h1,h2⟩;cases this)
  refine⟨K,?_⟩
  have e:=he K (Nat.le_refl _)
  show(slices_Index_int_int.f K _ _).bind _=_
  unfold slices_Index_int_int.f
  show(slices_Index_int_int.l0 K _ _ _ ((0:Nat):Int)).bind _=_
  have e:slices_Index_int_int.l0 K ((List.range m).map f) (-1) (((List.range m).map f).length:Int) ((0:Nat):Int)=some (-1):=e
  rw[e]
  rfl
end
section
open Go.Proofs.Ytebbdadpgapobaa.Red Go.Proofs.Ytebbdadpgapobaa.Elim Go.Proofs.Ytebbdadpgapobaa.Fra
theorem infoN:(Try.prog.info? 2).map (fun i=>(i.zero,i.size,i.bytes))=some (some (.int .i64 0),1,8):=by kernel_rfl
theorem TB_low {tr tel base base' g n m wd:Nat} {b cc:Nat→Nat} {X:Nat→Nat→Int} {W:World} (h:TB tr tel base g n m wd b cc X W) (hb:base'≤base):TB tr tel base' g n m wd b cc X W:=
 ⟨h.hd,h.rw,h.inj,h.ne,fun hn=>Nat.le_trans hb (h.bg hn),fun i hi=>Nat.le_trans hb (h.bb i hi)⟩
theorem Ev_get_ {α:Type} {f:Nat→Option α} {r:α} (h:Ev f r): ∃k,f k=some r:=by obtain⟨K,h⟩:=h;exact⟨K,h K (Nat.le_refl _)⟩
structure SJ (w0:World) (g n m:Nat) (Q:Nat→Nat→Rat) (b cc:Nat→Nat) (aA:Value) (ldf:Nat→Int) (gp:Nat) (fc:Array Value) (g6:Nat) (W:World):Prop where
 tb:TB 140 142 w0.heap.size g n (m+1) (2*(m+1)) b cc (FT Q) W
 ld:Kd.R (Kd.int .i64) 3 W w0.heap.size (fun _=>True) aA ((List.range m).map ldf)
 fr:W.heap[gp]? =some (.cells fc 33 (0,0))
 h6:W.heap[g6]? =some (.cells #[.slice none 0 0,.int .i64 0] 44 (0,0))
 l6:w0.heap.size≤g6
 bw:Below w0.heap.size w0 W
namespace SJ
section
variable {w0 W W1:World} {g n m:Nat} {Q:Nat→Nat→Rat} {b cc:Nat→Nat} {aA:Value} {ldf:Nat→Int} {gp:Nat} {fc:Array Value} {g6:Nat}
protected theorem below (h:SJ w0 g n m Q b cc aA ldf gp fc g6 W) (hb:Below W.heap.size W W1):SJ w0 g n m Q b cc aA ldf gp fc g6 W1:=⟨h.tb.below hb,Kd.R_below h.ld hb,blk_below h.fr hb,blk_below h.h6 hb,h.l6,h.bw.trans (hb.mono h.bw.size)⟩
protected theorem far (h:SJ w0 g n m Q b cc aA ldf gp fc g6 W) {p e:Nat} {cs:Array Value} (hp:W.heap[p]? =some (.cells cs e (0,0))) (h0:w0.heap.size≤p) (h1:e≠140) (h2:e≠142) (h3:e≠3) (h4:e≠33) (h5:g6≠p) (j:Nat) (u:Value):SJ w0 g n m Q b cc aA ldf gp fc g6 (W.setCell ⟨p,j,none⟩ u):=
 ⟨h.tb.farT hp h1 h2 j u,Kd.R_set h.ld hp (by simp[Kd.int,Kd.scalar];exact fun z=>h3 z.symm) j u,blk_far h.fr (fun z=>blk_ne h.fr hp (fun q=>h4 q.symm) z) _,blk_far h.h6 h5 _,h.l6,below_set h.bw h0⟩
end
end SJ
set_option maxHeartbeats 8000000 in
set_option maxRecDepth 100000 in
theorem impl_solveBars.calls (aC:Option Addr) (aB:Nat) (aG:List S90) (aA:Option Addr) (aD:Nat) (aH:List S104) (A1:Option Addr) (c1:Nat) (l1:List S76) (A2:Option Addr) (c2:Nat) (l2:List Int) (r1:List Int) (r2:Int) (r3:Bool) (w:World)
 (aO:Kd.C k90 w aC aG.length aG) (aQ:aG.length≤aB) (aS:Kd.C k104 w aA aH.length aH) (aR:aH.length≤aD) (bL:Kd.C k76 w A1 l1.length l1) (bV:l1.length≤c1) (bM:Kd.C (Kd.int .i64) w A2 l2.length l2) (bS:l2.length≤c2) (h:impl_solveBars.f aG aH l1 l2=some (r1,r2,r3)):
 Calls Try.prog 64 #[.agg #[.slice aC aG.length aB,.slice aA aH.length aD],.slice A1 l1.length c1,.slice A2 l2.length c2] w fun e w'=>∃v0_:Value,e= .returned (.tuple #[.agg #[v0_,.int .i64 r2],.bool r3])∧Kd.R (Kd.int .i64) 2 w' w.heap.size (fun _=>True) v0_ r1∧Below w.heap.size w w':=by
 unfold impl_solveBars.f at h
 by_cases hk:TOk aG aH l1 l2
 ·rw[if_pos hk]at h
  have hF:=tblM_fit hk
  obtain⟨n,hn⟩: ∃n,n=2*(frI aG).length:=⟨_,rfl⟩
  obtain⟨m,hm⟩: ∃m,m=l2.length:=⟨_,rfl⟩
  obtain⟨nb,hnb⟩: ∃nb,nb=aH.length:=⟨_,rfl⟩
  obtain⟨nk,hnk⟩: ∃nb,nb=aG.length:=⟨_,rfl⟩
  obtain⟨nl,hnl⟩: ∃nb,nb=l1.length:=⟨_,rfl⟩
  obtain⟨M0,bB⟩: ∃M0,M0=tblM aG aH l1 l2:=⟨_,rfl⟩
  rw[← hn,← hm,← bB]at hF
  rw[← hn,← hm,← bB,← hnb]at h
  obtain⟨s,hs⟩: ∃s,s=El n M0 m:=⟨_,rfl⟩
  rw[← hs]at h
  obtain⟨Q,hQ⟩: ∃Q,Q=Qr s.M s.d:=⟨_,rfl⟩
  rw[← hQ]at h
  have H:=Aside0.mk h
  have H0:=Aside0.mk (And.intro hk (And.intro hF (And.intro hn (And.intro hm (And.intro bB (And.intro hnb (And.intro hs hQ)))))))
  have HNK:=Aside0.mk (And.intro hnk hnl)
  have bN:m≤8:=by rw[hm];exact hk.b8
  have bG:=Aside0.mk bN
  have HR:=Aside0.mk (And.intro aO (And.intro aQ (And.intro aS (And.intro aR (And.intro bL bM)))))
  have hfull:=El_full n M0 m
  rw[← hs]at hfull
  have HFU:=Aside0.mk hfull
  obtain⟨kc,hkc⟩:=cont s.ld (m:=m) (by omega) (decide (s.t<m)) (by
   rw[decide_eq_true_eq]
   rcases hfull with ⟨e,hj⟩|⟨e,j,bX,bY⟩
   ·exact⟨fun z=>absurd z (by omega),fun⟨j,h1,h2⟩=>by have:=(hj j h1).1;omega⟩
   ·exact⟨fun _=>⟨j,bX,bY⟩,fun _=>e⟩)
  have HKC:=Aside0.mk hkc
  rw[← hm,← hnk,← hnb,← hnl]
  clear hk hF hn hm bB hnb hnk hnl hs hQ h aO aS bL bM aQ aR bV bS hfull hkc bN
  go_enter Try.func64,Try.ntmps64
  go_upto_region 2 with (fail)
  obtain⟨gp,hgp⟩: ∃g,g=w.heap.size:=⟨_,rfl⟩
  obtain⟨g6,bD⟩: ∃g,g=w.heap.size+1:=⟨_,rfl⟩
  obtain⟨w1,aW⟩: ∃w1,w1=(w.alloc (.cells #[.slice aC nk aB,.slice aA nb aD] 33)).alloc (.cells #[.slice none 0 0,.int .i64 0] 44):=⟨_,rfl⟩
  rw[← bD,← hgp,← aW]
  have HG:=Aside0.mk (show w1.heap[gp]? =some (.cells #[.slice aC nk aB,.slice aA nb aD] 33 (0,0))∧w1.heap[g6]? =some (.cells #[.slice none 0 0,.int .i64 0] 44 (0,0))∧w.heap.size≤g6∧Below w.heap.size w w1 from by
   refine⟨by rw[aW,hgp];exact alloc_old (alloc_at _ _) _,?_,by omega,by rw[aW];exact below_alloc (below_alloc (Below.refl _ _) _) _⟩
   have h:=alloc_at (w.alloc (.cells #[.slice aC nk aB,.slice aA nb aD] 33)) (.cells #[.slice none 0 0,.int .i64 0] 44)
   rw[size_alloc]at h
   rw[aW,bD];exact h)
  clear hgp bD aW
  have f0:=(blk_cell HG.out.1 0).trans rfl
  have f1:=(blk_cell HG.out.1 1).trans rfl
  have HBR:=Aside0.mk (show Calls Try.prog 94 #[.agg #[.slice aC nk aB,.slice aA nb aD],.slice A1 nl c1,.slice A2 m c2] w1 (BarPost w1 aG aH l1 l2)from by
   have B:=HG.out.2.2.2
   have h:=bar_calls aC aB aG aA aD aH A1 c1 l1 A2 c2 l2 w1 H0.out.1 (Kd.C_below HR.out.1 B) HR.out.2.1 (Kd.C_below HR.out.2.2.1 B) HR.out.2.2.2.1 (Kd.C_below HR.out.2.2.2.2.1 B) (Kd.C_below HR.out.2.2.2.2.2 B)
   rw[← H0.out.2.2.2.1,← H0.out.2.2.2.2.2.1,← HNK.out.1,← HNK.out.2]at h
   exact h)
  go_upto_region 4 with (first
   |(go_at_call 94;refine HBR.out.mono ?_;rintro e w3 ⟨g,cap,A,b,cc,rfl,hA,hTB,hb,hcap⟩;rw[← H0.out.2.2.1]at hA hTB hcap ⊢;rw[← H0.out.2.2.2.1,← H0.out.2.2.2.2.1]at hTB;have HT:=Aside0.mk (And.intro hA (And.intro hTB hb));have HCAP:=Aside0.mk hcap;clear hA hTB hb hcap)
   |(go_at_call 93;refine(redi_calls H0.out.2.1 bG.out HT.out.1 HT.out.2.1 HT.out.2.2).mono ?_;rintro e w4 ⟨cC,rfl,hR,⟨b',cc',hTB⟩,hb⟩;rw[← H0.out.2.2.2.2.2.2.1]at hR hTB;rw[← H0.out.2.2.2.2.2.2.2]at hTB;obtain⟨aT,c10,aV⟩:=Kd.R_slice hR;rw[List.length_map,List.length_range]at aV;subst aV;have HS:=Aside0.mk (show SJ w g n m Q b' cc' (.slice aT m c10) s.ld gp #[.slice aC nk aB,.slice aA nb aD] g6 w4 from⟨TB_low hTB HG.out.2.2.2.size,Kd.R_lower hR HG.out.2.2.2.size,blk_below HG.out.1 hb,blk_below HG.out.2.1 hb,HG.out.2.2.1,below_step HG.out.2.2.2 hb⟩);clear hR hTB hb))
  have HCN:=Aside0.mk (show Calls Try.prog 99 #[.slice aT m c10,.int .i64 (-1)] w4 fun e w'=>e= .returned (.bool (decide (s.t<m)))∧Below w4.heap.size w4 w' from by
   have hC:=Kd.R_reads' HS.out.ld
   have h:=slices_Contains_int_int.calls kc aT c10 ((List.range m).map s.ld) (-1) (decide (s.t<m)) w4 hC.2.2 (by simp;exact hC.2.1) HKC.out
   rw[List.length_map,List.length_range]at h
   refine h.mono ?_
   rintro e w' ⟨he,hd⟩
   exact⟨he,hd.below⟩)
  clear f0 f1 HBR
  by_cases c1:s.t<m
  ·have d1:decide (s.t<m)=true:=decide_eq_true c1
   have e:=H.out
   rw[if_pos c1]at e
   simp only[Option.some.injEq,Prod.mk.injEq]at e
   obtain⟨rfl,rfl,rfl⟩:=e
   clear c1
   go_upto_region 5 with (go_at_call 99;refine HCN.out.mono ?_;rintro e w5 ⟨rfl,hb⟩;have aL:=Aside0.mk (HS.out.below hb);clear hb;rw[d1])
   have f6a:=(blk_cell aL.out.h6 0).trans rfl
   have f6b:=(blk_cell aL.out.h6 1).trans rfl
   have z6a:=blk_frozen aL.out.h6 0
   have z6b:=blk_frozen aL.out.h6 1
   go_wp2_with (fail)
   refine bodyPost_ret (results_ct rfl _ _ g6 44 #[.slice none 0 0,.int .i64 0] (0,0) _ rfl (by have t2:=blk_set (blk_set aL.out.h6 0 (.slice none 0 0)) 1 (.int .i64 0);simpa using t2) Try.underlying44 rfl (by kernel_rfl)) rfl ?_
   exact⟨_,rfl,Kd.R_nil _ _ _ _ _,below_set (below_set aL.out.bw aL.out.l6) aL.out.l6⟩
  ·have d1:decide (s.t<m)=false:=decide_eq_false c1
   have e:=H.out
   rw[if_neg c1]at e
   have H2:=Aside0.mk e
   have HM:=Aside0.mk (show s.t=m∧m≤n∧n≤6∧(∀j,j<m→s.ld j=(j:Int))from by
    have h1:=H0.out.2.1.tn m (Nat.le_refl _)
    rw[← H0.out.2.2.2.2.2.2.1]at h1
    have h2:=H0.out.2.1.n6
    rcases HFU.out with ⟨e1,e2⟩|⟨e1,_⟩
    ·exact⟨e1,by omega,h2,fun j hj=>(e2 j hj).1⟩
    ·exact absurd e1 c1)
   clear c1 e H
   go_upto_region 6 with (go_at_call 99;refine HCN.out.mono ?_;rintro e w5 ⟨rfl,hb⟩;have aL:=Aside0.mk (HS.out.below hb);clear hb;rw[d1])
   have p1:((m:Int)≤(n:Int))=True:=eq_true (by have:=HM.out;omega)
   have p2:(m≤n)=True:=eq_true HM.out.2.1
   obtain⟨Av,hAv⟩: ∃Av:Option Addr,Aside0 (0<n - m→Av=some ⟨g,m,none⟩)∧(cap=m→Av=A)∧(¬cap=m→Av=A.map (fun x=>x.add m)):=by
    by_cases h:cap=m
    ·exact⟨A,⟨fun hi=>by have:=HCAP.out;omega⟩,fun _=>rfl,fun z=>absurd h z⟩
    ·refine⟨A.map (fun x=>x.add m),⟨fun hi=>?_⟩,fun z=>absurd z h,fun _=>rfl⟩
     rw[HT.out.1 (by omega)]
     show some ((⟨g,0,none⟩:Addr).add m)=_
     unfold Addr.add
     by_cases h0:m=0
     ·rw[if_pos h0,h0]
     ·rw[if_neg h0];simp
   have HAV:=hAv.1
   have hav:=Aside0.mk hAv.2
   clear hAv
   obtain⟨ml,hml⟩: ∃ml,ml=m+1:=⟨_,rfl⟩
   have HML:=Aside0.mk hml
   clear hml
   go_wp2_with (fail)
   all_goals
    first
     |(have hh:=hav.out.1 (by assumption);subst hh)
     |(rw[← hav.out.2 (by assumption)])
    go_loopg [35] (n - m+1) (fun kq bW w'=>∃(i:Nat) (ii:Int),bW= .int .i64 ii∧Aside0 (ii=(i:Int)∧i+kq=n - m+1∧1≤kq)∧Aside0 (SJ w g n m Q b' cc' (.slice aT m c10) s.ld gp #[.slice aC nk aB,.slice aA nb aD] g6 w')∧Aside0 (∀q,m≤q→q<m+i→s.M q m=0))
    case atStart=>exact⟨0,0,rfl,⟨rfl,by omega,by omega⟩,aL,⟨fun q h1 h2=>absurd h2 (by omega)⟩⟩
    case round=>
     obtain⟨i,ii,rfl,HI,HJ,HZ⟩:=hrel
     obtain⟨gq,rfl⟩: ∃k,gk=k+1:=⟨gk - 1,by have:=HI.out;omega⟩
     have bO:ii.toNat=i:=by have:=HI.out;omega
     have bR:=Aside0.mk bO
     clear bO
     by_cases c3:i<n - m
     ·have d2:decide (ii<((n - m:Nat):Int))=true:=decide_eq_true (by have:=HI.out;omega)
      obtain rfl:=HAV.out (by omega)
      obtain⟨br,hbr⟩: ∃z,z=b' (m+i):=⟨_,rfl⟩
      obtain⟨cr,hcr⟩: ∃z,z=cc' (m+i):=⟨_,rfl⟩
      obtain⟨z,hz⟩: ∃z,z=(Q (m+i) m).num:=⟨_,rfl⟩
      have hmi:m+i<n:=by omega
      have g0:wr.cell? ⟨g,m+ii.toNat,none⟩=some (.slice (some ⟨br,0,none⟩) ml cr):=by rw[bR.out,HML.out,hbr,hcr];exact HJ.out.tb.head hmi
      have g1:wr.cell? ⟨br,m*2,none⟩=some (.int .i64 z):=by
       have h:=HJ.out.tb.num (j:=2*m) hmi (by omega)
       rw[FT_num,← hz,← hbr,Nat.mul_comm]at h;exact h
      have p3:(0≤ii)=True:=eq_true (by have:=HI.out;omega)
      have p4:(ii<((n - m:Nat):Int))=True:=eq_true (by have:=HI.out;omega)
      have p5:((m:Int)<(ml:Int))=True:=eq_true (by have:=HML.out;omega)
      have p6:(m<ml)=True:=eq_true (by have:=HML.out;omega)
      have HZZ:=Aside0.mk (show(z=0↔s.M (m+i) m=0)∧m+i<n from⟨by
       rw[hz,H0.out.2.2.2.2.2.2.2]
       refine Qr_num ?_ _ _
       rw[H0.out.2.2.2.2.2.2.1];exact H0.out.2.1.d0 m (Nat.le_refl _),hmi⟩)
      clear hz hbr hcr hmi c3
      by_cases c4:z=0
      ·subst c4
       have bU:=Aside0.mk (show s.M (m+i) m=0 from HZZ.out.1.1 rfl)
       go_wp2_with (fail)
       go_roundg gq
       case measure=>omega
       case rel=>
        have h1:=HI.out;have h2:=HM.out;have h3:=HZZ.out.2
        have hw:=wrap_id (ii+1) (by omega) (by omega)
        refine⟨i+1,ii+1,by rw[hw],⟨by omega,by omega,by omega⟩,HJ,⟨fun q bP cA=>?_⟩⟩
        by_cases e:q=m+i
        ·rw[e];exact bU.out
        ·exact HZ.out q bP (by omega)
      ·have c4b:(z != 0)=true:=bne_iff_ne.mpr c4
       have c4c:(z == 0)=false:=beq_eq_false_iff_ne.mpr c4
       have e:=H2.out
       rw[if_neg (fun hall=>c4 (HZZ.out.1.2 (hall (m+i) (by omega) HZZ.out.2)))]at e
       simp only[Option.some.injEq,Prod.mk.injEq]at e
       obtain⟨rfl,rfl,rfl⟩:=e
       clear c4
       have f6a:=(blk_cell HJ.out.h6 0).trans rfl
       have f6b:=(blk_cell HJ.out.h6 1).trans rfl
       have z6a:=blk_frozen HJ.out.h6 0
       have z6b:=blk_frozen HJ.out.h6 1
       go_wp2_with (fail)
       refine bodyPost_ret (results_ct rfl _ _ g6 44 #[.slice none 0 0,.int .i64 0] (0,0) _ rfl (by have t2:=blk_set (blk_set HJ.out.h6 0 (.slice none 0 0)) 1 (.int .i64 0);simpa using t2) Try.underlying44 rfl (by kernel_rfl)) rfl ?_
       exact⟨_,rfl,Kd.R_nil _ _ _ _ _,below_set (below_set HJ.out.bw HJ.out.l6) HJ.out.l6⟩
     ·have d2:decide (ii<((n - m:Nat):Int))=false:=decide_eq_false (by have:=HI.out;omega)
      have e:=H2.out
      rw[if_pos (fun q h1 h2=>HZ.out q h1 (by omega))]at e
      simp only[Option.some.injEq,Prod.mk.injEq]at e
      obtain⟨rfl,rfl,rfl⟩:=e
      clear c3
      have f1:=(blk_cell HJ.out.fr 1).trans rfl
      have p3:((nb:Int)≤35184372088832)=True:=eq_true (by have h1:=H0.out.1.bn;have h2:=H0.out.2.2.2.2.2.1;omega)
      go_upto_region 13 with ((with_reducible refine gate_dst (N:=50) rfl ?_);refine Kd.R_make (Kd.int .i64) _ 2 rfl (N:=50) rfl 26 _ _ rfl (nb:Int) rfl rfl Try.underlying26 (.int .i64 0) 8 infoN rfl (by decide) (by decide) 0 (ok:=fun _=>True) (okp:=fun _=>True) rfl (fun _ hk=>hk) trivial (by omega) (by have h1:=H0.out.1.bn;have h2:=H0.out.2.2.2.2.2.1;omega) (Below.refl _ _) (Nat.le_refl _) ?_;intro cB w6 ho hb hg_ hnew_;clear hg_ hnew_;rw[Int.toNat_natCast]at ho;obtain⟨aF,aE,aY⟩:=Kd.R_slice ho;rw[List.length_replicate]at aY;subst aY;have HO:=Aside0.mk (And.intro (Kd.R_lower ho HJ.out.bw.size) (And.intro (HJ.out.below hb) hb));clear ho hb)
      obtain⟨gD,hgD⟩: ∃z,z=w6.heap.size:=⟨_,rfl⟩
      obtain⟨w7,aZ⟩: ∃z,z=w6.alloc (.cells #[.slice aF nb aE,.int .i64 1] 44 (0,0)):=⟨_,rfl⟩
      rw[← hgD,← aZ]
      have HD:=Aside0.mk (show w.heap.size≤gD∧g6≠gD∧aF=aF from⟨by rw[hgD];exact Nat.le_trans HJ.out.bw.size HO.out.2.2.size,by rw[hgD];exact fun e=>by have:=blk_lt HO.out.2.1.h6;omega,rfl⟩)
      have H7:=Aside0.mk (show SJ w g n m Q b' cc' (.slice aT m c10) s.ld gp #[.slice aC nk aB,.slice aA nb aD] g6 w7∧w7.heap[gD]? =some (.cells #[.slice aF nb aE,.int .i64 (lcmD (fun c=>((Q c m).den:Int)) 0)] 44 (0,0))∧Kd.R (Kd.int .i64) 2 w7 w.heap.size (fun _=>True) (.slice aF nb aE) (slvI nb l2 (fun c=>(Q c m).num*(lcmD (fun c=>((Q c m).den:Int)) m / ((Q c m).den:Int))) 0)from⟨by rw[aZ];exact HO.out.2.1.below (below_alloc (Below.refl _ _) _),by rw[aZ,hgD];exact alloc_at _ _,by rw[aZ];exact Kd.R_alloc HO.out.1 _⟩)
      obtain⟨dq,hdq⟩: ∃f:Nat→Int,f=(fun c=>((Q c m).den:Int)):=⟨_,rfl⟩
      obtain⟨L,hL⟩: ∃z,z=lcmD dq m:=⟨_,rfl⟩
      obtain⟨XN,hXN⟩: ∃f:Nat→Int,f=(fun c=>(Q c m).num*(L / ((Q c m).den:Int))):=⟨_,rfl⟩
      rw[← hdq,← hL,← hXN]at H7
      have HLC:=Aside0.mk (show L=lcmD dq m∧(∀c,0<dq c)∧(∀c,c≤m→0<lcmD dq c∧lcmD dq c≤268738560)∧(∀c,c<m→dq c≤268738560)∧(∀c,c<m→(Q c m).num.natAbs≤4478976000)∧(∀c,dq c=((Q c m).den:Int))∧(∀c,XN c=(Q c m).num*(L / ((Q c m).den:Int)))from by
       have bK:=H0.out.2.1.d0 m (Nat.le_refl _)
       have hdB:=H0.out.2.1.dB m (Nat.le_refl _)
       have hlB:=H0.out.2.1.lB m
       rw[← H0.out.2.2.2.2.2.2.1]at bK hdB hlB
       have hp: ∀c,0<dq c:=fun c=>by rw[hdq];exact Go.Proofs.Ytebbdadpgapobaa.Lib.den_pos _
       have hdv: ∀c,dq c∣s.d:=fun c=>by rw[hdq,H0.out.2.2.2.2.2.2.2];exact Go.Proofs.Ytebbdadpgapobaa.Lib.den_dvd bK (n:=s.M c m) rfl
       refine⟨hL,hp,fun c hc=>?_,fun c hc=>?_,fun c hc=>?_,fun c=>by rw[hdq],fun c=>by rw[hXN]⟩
       ·have h1:=lcmD_pos hp c
        have h2:=lcmD_min hp (D:=s.d) c (fun j _=>hdv j)
        refine⟨h1,?_⟩
        have h3:=Int.natAbs_dvd_natAbs.2 h2
        have h4:=Nat.le_of_dvd (by omega) h3
        omega
       ·have h3:=Int.natAbs_dvd_natAbs.2 (hdv c)
        have h4:=Nat.le_of_dvd (by omega) h3
        have:=hp c;omega
       ·rw[H0.out.2.2.2.2.2.2.2]
        exact Nat.le_trans (abs_num bK rfl) (hlB c m (Nat.le_refl _) (by have:=HM.out;omega) (Nat.le_refl _)))
      clear hgD aZ HO f1 HJ HZ hdq hL hXN H2
      go_wp2_with (fail)
      go_loopg [54] (m+1) (fun kq bZ w'=>∃(c:Nat) (ci:Int),bZ= .int .i64 ci∧Aside0 (ci=(c:Int)∧c+kq=m+1∧1≤kq)∧Aside0 (SJ w g n m Q b' cc' (.slice aT m c10) s.ld gp #[.slice aC nk aB,.slice aA nb aD] g6 w'∧w'.heap[gD]? =some (.cells #[.slice aF nb aE,.int .i64 (lcmD dq c)] 44 (0,0))∧Kd.R (Kd.int .i64) 2 w' w.heap.size (fun _=>True) (.slice aF nb aE) (slvI nb l2 XN 0)))
      case atStart=>exact⟨0,0,rfl,⟨rfl,by omega,by omega⟩,H7⟩
      case round=>
       obtain⟨c,ci,rfl,HC,HJ⟩:=hrel
       obtain⟨gr,rfl⟩: ∃k,gk=k+1:=⟨gk - 1,by have:=HC.out;omega⟩
       have aX:ci.toNat=c:=by have:=HC.out;omega
       have bH:=Aside0.mk aX
       clear aX
       by_cases c3:c<m
       ·have d3:decide (ci<(m:Int))=true:=decide_eq_true (by have:=HC.out;omega)
        have hcn:c<n:=by have:=HM.out;omega
        obtain⟨ad,had,h0⟩:=Kd.at_int (Kd.R_reads' HJ.out.1.ld).2.2 ci (by have:=HC.out;omega) (by have:=HC.out;simp;omega)
        subst had
        rw[show rd ((List.range m).map s.ld) ci=ci from by rw[HC.out.1,rd_map s.ld c3,HM.out.2.2.2 c c3]]at h0
        obtain⟨br,hbr⟩: ∃z,z=b' c:=⟨_,rfl⟩
        obtain⟨cr,hcr⟩: ∃z,z=cc' c:=⟨_,rfl⟩
        obtain⟨qd,hqd⟩: ∃z,z=dq c:=⟨_,rfl⟩
        obtain⟨lc,hlc⟩: ∃z,z=lcmD dq c:=⟨_,rfl⟩
        obtain rfl:=HT.out.1 (by omega)
        have g0:wr.cell? ⟨g,ci.toNat,none⟩=some (.slice (some ⟨br,0,none⟩) ml cr):=by rw[bH.out,HML.out,hbr,hcr];exact HJ.out.1.tb.head hcn
        have g1:wr.cell? ⟨br,m*2+1,none⟩=some (.int .i64 qd):=by
         have h:=HJ.out.1.tb.num (j:=2*m+1) hcn (by omega)
         rw[FT_den,← HLC.out.2.2.2.2.2.1 c,← hqd,← hbr,Nat.mul_comm]at h;exact h
        have hblk:=HJ.out.2.1
        rw[← hlc]at hblk
        have HBL:=Aside0.mk hblk
        obtain⟨kg,hkg⟩:=Ev_get_ (gcd_ev lc qd (by rw[hlc];have:=HLC.out.2.2.1 c (by omega);omega) (by rw[hlc];have:=HLC.out.2.2.1 c (by omega);omega) (by rw[hqd];have:=HLC.out.2.1 c;omega))
        obtain⟨gv,hgv⟩: ∃z:Int,z=(Int.gcd lc qd:Int):=⟨_,rfl⟩
        rw[← hgv]at hkg
        have HGV:=Aside0.mk (show impl_gcd.f kg lc qd=some gv∧gv≠0∧lc=lcmD dq c∧qd=dq c∧lcmD dq (c+1)=lc / gv*qd∧0≤lc / gv∧lc / gv≤268738560∧0<lcmD dq (c+1)∧lcmD dq (c+1)≤268738560∧0<lc from by
         have h1:=HLC.out.2.2.1 c (by omega)
         have h2:=HLC.out.2.2.1 (c+1) (by omega)
         have gp_:=Go.Proofs.Ytebbdadpgapobaa.Lib.gcd_pos (n:=lc) (d:=qd) (by rw[hqd];have:=HLC.out.2.1 c;omega)
         rw[← hgv]at gp_
         rw[← hlc]at h1
         refine⟨hkg,by omega,hlc,hqd,by rw[lcmD,← hlc,← hqd,← hgv],Int.ediv_nonneg (by omega) (by omega),Int.le_trans (Int.ediv_le_self _ (by omega)) h1.2,h2.1,h2.2,h1.1⟩)
        have p3:(0≤ci)=True:=eq_true (by have:=HC.out;omega)
        have p4:(ci<(m:Int))=True:=eq_true (by have:=HC.out;omega)
        have p5:(ci<(n:Int))=True:=eq_true (by have:=HC.out;omega)
        have p6:((m:Int)<(ml:Int))=True:=eq_true (by have:=HML.out;omega)
        have p7:(m<ml)=True:=eq_true (by have:=HML.out;omega)
        have q1:(gv=0)=False:=eq_false HGV.out.2.1
        have q2:(gv == 0)=false:=beq_eq_false_iff_ne.mpr HGV.out.2.1
        have q3:wrap64 (Int.tdiv lc gv)=lc / gv:=by rw[Int.tdiv_eq_ediv_of_nonneg (by have:=HGV.out;omega)];exact wrap_id _ (by have:=HGV.out;omega) (by have:=HGV.out;omega)
        have q4:wrap64 (lc / gv*qd)=lcmD dq (c+1):=by rw[← HGV.out.2.2.2.2.1];exact wrap_id _ (by have:=HGV.out;omega) (by have:=HGV.out;omega)
        have C3:=Aside0.mk c3
        clear c3 hcn hbr hcr hqd hlc hblk hkg hgv
        go_upto_region 17 with (fail)
        have SS:=Aside0.mk (show∀w':World,w'.heap[gD]? =some (.cells #[.slice aF nb aE,.int .i64 lc] 44 (0,0))→w'.cell? ⟨gD,1,none⟩=some (.int .i64 lc)from fun w' h=>(blk_cell h 1).trans rfl)
        refine start_ (n:=11) (S:=fun w'=>w'.cell? ⟨gD,1,none⟩=some (.int .i64 lc)) (ds:=[10]) #[false,false,false,false,false,false,false,false,false,false,false] (by kernel_rfl) rfl rfl (SS.out _ (blk_drew HBL.out)) (fun hHeld=>?_)
        refine pure_ (i:=0) (N:=some 68) (v:=?_) (a':=?_) #[true,false,false,false,false,false,false,false,false,false,false] rfl rfl (by kernel_rfl) (fun _ _ _ h=>h) (Or.inl ⟨by rfl,?_⟩) ?_ ?_
        rotate_left
        ·intro w'
         go_simp
         with_reducible rfl
        rotate_left
        ·simp only[Act.put,List.setIfInBounds_toArray,List.set_cons_zero,List.set_cons_succ,i64_w,i32_w]
         rfl
        refine take_ (i:=1) (N:=some 69) (v:=?_) (a':=?_) #[true,true,false,false,false,false,false,false,false,false,false] rfl rfl (by kernel_rfl) (fun _ _ _ h=>h) (Or.inl ⟨by rfl,?_⟩) hHeld ?_ ?_
        rotate_left
        ·rintro w' s0
         go_simp
         with_reducible rfl
        rotate_left
        ·simp only[Act.put,List.setIfInBounds_toArray,List.set_cons_zero,List.set_cons_succ,i64_w,i32_w]
         rfl
        refine pure_ (i:=2) (N:=some 70) (v:=?_) (a':=?_) #[true,true,true,false,false,false,false,false,false,false,false] rfl rfl (by kernel_rfl) (fun _ _ _ h=>h) (Or.inl ⟨by rfl,?_⟩) ?_ ?_
        rotate_left
        ·intro w'
         go_simp
         with_reducible rfl
        rotate_left
        ·simp only[Act.put,List.setIfInBounds_toArray,List.set_cons_zero,List.set_cons_succ,i64_w,i32_w]
         rfl
        refine take_ (i:=3) (N:=some 71) (v:=?_) (a':=?_) #[true,true,true,true,false,false,false,false,false,false,false] rfl rfl (by kernel_rfl) (fun _ _ _ h=>h) (Or.inl ⟨by rfl,?_⟩) hHeld ?_ ?_
        rotate_left
        ·rintro w' s0
         go_simp
         with_reducible rfl
        rotate_left
        ·simp only[Act.put,List.setIfInBounds_toArray,List.set_cons_zero,List.set_cons_succ,i64_w,i32_w]
         rfl
        refine pure_ (i:=4) (N:=some 72) (v:=?_) (a':=?_) #[true,true,true,true,true,false,false,false,false,false,false] rfl rfl (by kernel_rfl) (fun _ _ _ h=>h) (Or.inl ⟨by rfl,?_⟩) ?_ ?_
        rotate_left
        ·intro w'
         go_simp
         with_reducible rfl
        rotate_left
        ·simp only[Act.put,List.setIfInBounds_toArray,List.set_cons_zero,List.set_cons_succ,i64_w,i32_w]
         rfl
        refine pure_ (i:=7) (N:=some 75) (v:=?_) (a':=?_) #[true,true,true,true,true,false,false,true,false,false,false] rfl rfl (by kernel_rfl) (fun _ _ _ h=>h) (Or.inl ⟨by rfl,?_⟩) ?_ ?_
        rotate_left
        ·intro w'
         go_simp
         with_reducible rfl
        rotate_left
        ·simp only[Act.put,List.setIfInBounds_toArray,List.set_cons_zero,List.set_cons_succ,i64_w,i32_w]
         rfl
        obtain⟨bC,HW⟩: ∃z,Aside0 (z=wr.drew):=⟨_,⟨rfl⟩⟩
        have aN:=Aside0.mk (show SJ w g n m Q b' cc' (.slice (some ad) m c10) s.ld gp #[.slice aC nk aB,.slice aA nb aD] g6 bC∧bC.heap[gD]? =some (.cells #[.slice aF nb aE,.int .i64 (lcmD dq c)] 44 (0,0))∧Kd.R (Kd.int .i64) 2 bC w.heap.size (fun _=>True) (.slice aF nb aE) (slvI nb l2 XN 0)from HW.out▸⟨HJ.out.1.below (below_drew (Below.refl _ _)),blk_drew HJ.out.2.1,Kd.R_drew HJ.out.2.2⟩)
        rw[← HW.out]
        rw[← HW.out]at hHeld
        clear HW HJ HBL
        refine one_ (i:=5) (N:=some 73) #[true,true,true,true,true,true,false,true,false,false,false] rfl rfl (by kernel_rfl) (by decide) (fun K hK=>?_)
        refine goes_ Try.func88 (by kernel_rfl) rfl #[.int .i64 lc,.int .i64 qd] (by rfl) rfl rfl (by(try simp only[List.map_toArray,List.map_cons,List.map_nil]);first|done|rfl) ?_
        refine(impl_gcd.calls kg lc qd gv bC HGV.out.1).mono ?_
        rintro e bA ⟨rfl,hd⟩
        refine⟨_,rfl,?_⟩
        have aJ:=Aside0.mk (show SJ w g n m Q b' cc' (.slice (some ad) m c10) s.ld gp #[.slice aC nk aB,.slice aA nb aD] g6 bA∧bA.heap[gD]? =some (.cells #[.slice aF nb aE,.int .i64 (lcmD dq c)] 44 (0,0))∧Kd.R (Kd.int .i64) 2 bA w.heap.size (fun _=>True) (.slice aF nb aE) (slvI nb l2 XN 0)from⟨aN.out.1.below hd.below,blk_below aN.out.2.1 hd.below,Kd.R_below aN.out.2.2 hd.below⟩)
        refine hK.out _ _ (SS.out _ (by rw[HGV.out.2.2.1];exact aJ.out.2.1)) (fun hHeld=>?_)
        clear hK K hd aN
        refine norm_ (a':=?_) ?_ ?_
        rotate_left
        ·show Act.put _ (some 73) _=_
         simp only[Act.put,List.setIfInBounds_toArray,List.set_cons_zero,List.set_cons_succ,i64_w,i32_w]
         rfl
        refine pure_ (i:=6) (N:=some 74) (v:=?_) (a':=?_) #[true,true,true,true,true,true,true,true,false,false,false] rfl rfl (by kernel_rfl) (fun _ _ _ h=>h) (Or.inl ⟨by rfl,?_⟩) ?_ ?_
        rotate_left
        ·intro w'
         go_simp
         with_reducible rfl
        rotate_left
        ·simp only[Act.put,List.setIfInBounds_toArray,List.set_cons_zero,List.set_cons_succ,i64_w,i32_w]
         rfl
        refine pure_ (i:=8) (N:=some 76) (v:=?_) (a':=?_) #[true,true,true,true,true,true,true,true,true,false,false] rfl rfl (by kernel_rfl) (fun _ _ _ h=>h) (Or.inl ⟨by rfl,?_⟩) ?_ ?_
        rotate_left
        ·intro w'
         go_simp
         with_reducible rfl
        rotate_left
        ·simp only[Act.put,List.setIfInBounds_toArray,List.set_cons_zero,List.set_cons_succ,i64_w,i32_w]
         rfl
        refine pure_ (i:=9) (N:=some 77) (v:=?_) (a':=?_) #[true,true,true,true,true,true,true,true,true,true,false] rfl rfl (by kernel_rfl) (fun _ _ _ h=>h) (Or.inl ⟨by rfl,?_⟩) ?_ ?_
        rotate_left
        ·intro w'
         go_simp
         with_reducible rfl
        rotate_left
        ·simp only[Act.put,List.setIfInBounds_toArray,List.set_cons_zero,List.set_cons_succ,i64_w,i32_w]
         rfl
        have z0:=blk_frozen aJ.out.2.1 1
        have z1:=(blk_cell aJ.out.2.1 1).trans rfl
        rw[show(#[Value.slice aF nb aE,Value.int .i64 (lcmD dq c)]:Array Value)[1]? =some (.int .i64 (lcmD dq c))from rfl]at z1
        refine last_ (i:=10) (N:=none) #[true,true,true,true,true,true,true,true,true,true,true] rfl rfl (by kernel_rfl) (by decide) (fun K hK=>?_)
        refine skip_ (w1:=?_) (by rfl) rfl ?_ ?_
        rotate_left
        ·go_simp
         rfl
        refine hK.out _ _ ?_
        clear hK K
        refine done_ (by kernel_rfl) ?_
        clear hHeld z0 z1 SS
        obtain⟨bJ,HW⟩: ∃z,Aside0 (z=bA.setCell ⟨gD,1,none⟩ (.int .i64 (lcmD dq (c+1)))):=⟨_,⟨rfl⟩⟩
        rw[← HW.out]
        have bI:=Aside0.mk (show SJ w g n m Q b' cc' (.slice (some ad) m c10) s.ld gp #[.slice aC nk aB,.slice aA nb aD] g6 bJ∧bJ.heap[gD]? =some (.cells #[.slice aF nb aE,.int .i64 (lcmD dq (c+1))] 44 (0,0))∧Kd.R (Kd.int .i64) 2 bJ w.heap.size (fun _=>True) (.slice aF nb aE) (slvI nb l2 XN 0)from by
         rw[HW.out]
         refine⟨aJ.out.1.far aJ.out.2.1 HD.out.1 (by decide) (by decide) (by decide) (by decide) HD.out.2.1 1 _,?_,Kd.R_set aJ.out.2.2 aJ.out.2.1 (by simp[Kd.int,Kd.scalar]) 1 _⟩
         have h:=blk_set aJ.out.2.1 1 (.int .i64 (lcmD dq (c+1)))
         simpa using h)
        clear HW aJ
        go_wp2_with (fail)
        go_roundg gr
        case measure=>omega
        case rel=>
         have h1:=HC.out;have h2:=C3.out;have h3:=bG.out
         have hw:=wrap_id (ci+1) (by omega) (by omega)
         exact⟨c+1,ci+1,by rw[hw],⟨by omega,by omega,by omega⟩,bI⟩
       ·have C3:=Aside0.mk (show c=m from by have:=HC.out;omega)
        have d3:decide (ci<(m:Int))=false:=decide_eq_false (by have:=HC.out;have:=C3.out;omega)
        clear c3
        have bQ:=Aside0.mk (show SJ w g n m Q b' cc' (.slice aT m c10) s.ld gp #[.slice aC nk aB,.slice aA nb aD] g6 wr∧wr.heap[gD]? =some (.cells #[.slice aF nb aE,.int .i64 L] 44 (0,0))∧Kd.R (Kd.int .i64) 2 wr w.heap.size (fun _=>True) (.slice aF nb aE) (slvI nb l2 XN 0)from by
         have h:=HJ.out
         rw[C3.out,← HLC.out.1]at h;exact h)
        clear HJ
        go_wp2_with (fail)
        go_loopg [81] (m+1) (fun kq bT w'=>∃(c:Nat) (ci:Int),bT= .int .i64 ci∧Aside0 (ci=(c:Int)∧c+kq=m+1∧1≤kq)∧Aside0 (SJ w g n m Q b' cc' (.slice aT m c10) s.ld gp #[.slice aC nk aB,.slice aA nb aD] g6 w'∧w'.heap[gD]? =some (.cells #[.slice aF nb aE,.int .i64 L] 44 (0,0))∧Kd.R (Kd.int .i64) 2 w' w.heap.size (fun _=>True) (.slice aF nb aE) (slvI nb l2 XN c)))
        case atStart=>exact⟨0,0,rfl,⟨rfl,by omega,by omega⟩,bQ⟩
        case round=>
         obtain⟨c,ci,rfl,HC,HJ⟩:=hrel
         obtain⟨gs,rfl⟩: ∃k,gk=k+1:=⟨gk - 1,by have:=HC.out;omega⟩
         have aX:ci.toNat=c:=by have:=HC.out;omega
         have bH:=Aside0.mk aX
         clear aX
         by_cases c3:c<m
         ·have d3:decide (ci<(m:Int))=true:=decide_eq_true (by have:=HC.out;omega)
          have hcn:c<n:=by have:=HM.out;omega
          obtain⟨ad,had,h0⟩:=Kd.at_int (Kd.R_reads' HJ.out.1.ld).2.2 ci (by have:=HC.out;omega) (by have:=HC.out;simp;omega)
          subst had
          rw[show rd ((List.range m).map s.ld) ci=ci from by rw[HC.out.1,rd_map s.ld c3,HM.out.2.2.2 c c3]]at h0
          obtain⟨br,hbr⟩: ∃z,z=b' c:=⟨_,rfl⟩
          obtain⟨cr,hcr⟩: ∃z,z=cc' c:=⟨_,rfl⟩
          obtain⟨qd,hqd⟩: ∃z,z=((Q c m).den:Int):=⟨_,rfl⟩
          obtain⟨qn,hqn⟩: ∃z,z=(Q c m).num:=⟨_,rfl⟩
          obtain⟨x,hx⟩: ∃x,x=rd l2 ci:=⟨_,rfl⟩
          have hxb:=H0.out.1.idx x (by rw[hx];exact rd_memI (by have:=HC.out;omega) (by have:=HC.out;have:=H0.out.2.2.2.1;omega))
          rw[← H0.out.2.2.2.2.2.1]at hxb
          obtain rfl:=HT.out.1 (by omega)
          have g0:wr.cell? ⟨g,ci.toNat,none⟩=some (.slice (some ⟨br,0,none⟩) ml cr):=by rw[bH.out,HML.out,hbr,hcr];exact HJ.out.1.tb.head hcn
          have g1:wr.cell? ⟨br,m*2,none⟩=some (.int .i64 qn):=by
           have h:=HJ.out.1.tb.num (j:=2*m) hcn (by omega)
           rw[FT_num,← hqn,← hbr,Nat.mul_comm]at h;exact h
          have g2:wr.cell? ⟨br,m*2+1,none⟩=some (.int .i64 qd):=by
           have h:=HJ.out.1.tb.num (j:=2*m+1) hcn (by omega)
           rw[FT_den,← hqd,← hbr,Nat.mul_comm]at h;exact h
          obtain⟨ab,hab,k0⟩:=Kd.at_int (Kd.C_below HR.out.2.2.2.2.2 HJ.out.1.bw) ci (by have:=HC.out;omega) (by have:=HC.out;have:=H0.out.2.2.2.1;omega)
          subst hab
          rw[← hx]at k0
          obtain⟨xn,hxn⟩: ∃z,z=XN c:=⟨_,rfl⟩
          have HXN:=Aside0.mk (show xn=qn*(L / qd)∧xn=XN c∧qd≠0∧0<L∧L≤268738560∧0≤L / qd∧L / qd≤268738560∧xn.natAbs≤1203673560514560000∧x=rd l2 ((c:Nat):Int)∧(0≤x∧x<(nb:Int))from by
           have h1:=HLC.out.2.2.1 m (Nat.le_refl _)
           rw[← HLC.out.1]at h1
           have h2:=HLC.out.2.1 c
           rw[HLC.out.2.2.2.2.2.1 c,← hqd]at h2
           have h3:=HLC.out.2.2.2.2.1 c c3
           rw[← hqn]at h3
           have h4:=HLC.out.2.2.2.2.2.2 c
           rw[← hqn,← hqd]at h4
           have h5:=Int.ediv_nonneg (Int.le_of_lt h1.1) (Int.le_of_lt h2)
           have h6:=Int.le_trans (Int.ediv_le_self qd (Int.le_of_lt h1.1)) h1.2
           refine⟨by rw[hxn,h4],hxn,by omega,h1.1,h1.2,h5,h6,?_,by rw[hx,HC.out.1],hxb⟩
           rw[hxn,h4]
           exact Nat.le_trans (mul_abs (b:=268738560) h3 (by omega)) (by decide))
          have hsl:=slvI_len nb l2 XN c
          obtain⟨gN,capN,hvN,hbN,_,cellsN,hcN⟩:=Kd.R_form HJ.out.2.2 (by rw[hsl];omega)
          rw[hsl]at hvN
          injection hvN with e1 e2 e3
          clear e2
          subst e1 e3
          have HGN:=Aside0.mk (And.intro hcN hbN)
          have p3:(0≤ci)=True:=eq_true (by have:=HC.out;omega)
          have p4:(ci<(m:Int))=True:=eq_true (by have:=HC.out;omega)
          have p5:(ci<(n:Int))=True:=eq_true (by have:=HC.out;omega)
          have p6:((m:Int)<(ml:Int))=True:=eq_true (by have:=HML.out;omega)
          have p7:(m<ml)=True:=eq_true (by have:=HML.out;omega)
          have p8:(0≤x)=True:=eq_true hxb.1
          have p9:(x<(nb:Int))=True:=eq_true hxb.2
          have q1:(qd=0)=False:=eq_false HXN.out.2.2.1
          have q2:(qd == 0)=false:=beq_eq_false_iff_ne.mpr HXN.out.2.2.1
          have q3:wrap64 (Int.tdiv L qd)=L / qd:=by rw[Int.tdiv_eq_ediv_of_nonneg (by have:=HXN.out;omega)];exact wrap_id _ (by have:=HXN.out;omega) (by have:=HXN.out;omega)
          have q4:wrap64 (qn*(L / qd))=xn:=by rw[← HXN.out.1];exact wrap_id _ (by have:=HXN.out;omega) (by have:=HXN.out;omega)
          have C3:=Aside0.mk c3
          clear c3 hcn hbr hcr hqd hqn hx hxb hxn hsl hcN hbN
          go_upto_region 23 with (fail)
          obtain⟨gX,hgX⟩: ∃z,z=wr.heap.size:=⟨_,rfl⟩
          obtain⟨aP,aM⟩: ∃z,z=wr.alloc (.cells #[.int .i64 qn,.int .i64 qd] 142 (0,0)):=⟨_,rfl⟩
          rw[← hgX,← aM]
          have aK:=Aside0.mk (show SJ w g n m Q b' cc' (.slice (some ad) m c10) s.ld gp #[.slice aC nk aB,.slice aA nb aD] g6 aP∧aP.heap[gD]? =some (.cells #[.slice (some ⟨gN,0,none⟩) nb aE,.int .i64 L] 44 (0,0))∧Kd.R (Kd.int .i64) 2 aP w.heap.size (fun _=>True) (.slice (some ⟨gN,0,none⟩) nb aE) (slvI nb l2 XN c)∧aP.heap[gX]? =some (.cells #[.int .i64 qn,.int .i64 qd] 142 (0,0))∧aP.heap[gN]? =some (.cells cellsN 2 (0,0))from by
           have B:Below wr.heap.size wr aP:=by rw[aM];exact below_alloc (Below.refl _ _) _
           exact⟨HJ.out.1.below B,blk_below HJ.out.2.1 B,Kd.R_below HJ.out.2.2 B,by rw[aM,hgX];exact alloc_at _ _,blk_below HGN.out.1 B⟩)
          clear hgX aM HJ h0 g0 g1 g2 k0
          have e0:=(blk_cell aK.out.2.1 0).trans rfl
          have e1:=(blk_cell aK.out.2.1 1).trans rfl
          have x0:=(blk_cell aK.out.2.2.2.1 0).trans rfl
          have x1:=(blk_cell aK.out.2.2.2.1 1).trans rfl
          refine wp_region_still_tail 12 (by kernel_rfl) (by kernel_rfl) ?_
          simp only[List.take_succ_cons,List.take_zero,List.drop_succ_cons,List.drop_zero]
          change wpStill _ _ (World.drew _) _ _ _
          repeat still_step
          refine wpStill_nil ?_
          change wpList _ _ _ _ _ (World.drew aP)
          obtain⟨aU,HW⟩: ∃z,Aside0 (z=aP.drew):=⟨_,⟨rfl⟩⟩
          have aI:=Aside0.mk (show SJ w g n m Q b' cc' (.slice (some ad) m c10) s.ld gp #[.slice aC nk aB,.slice aA nb aD] g6 aU∧aU.heap[gD]? =some (.cells #[.slice (some ⟨gN,0,none⟩) nb aE,.int .i64 L] 44 (0,0))∧Kd.R (Kd.int .i64) 2 aU w.heap.size (fun _=>True) (.slice (some ⟨gN,0,none⟩) nb aE) (slvI nb l2 XN c)∧aU.heap[gN]? =some (.cells cellsN 2 (0,0))from HW.out▸⟨aK.out.1.below (below_drew (Below.refl _ _)),blk_drew aK.out.2.1,Kd.R_drew aK.out.2.2.1,blk_drew aK.out.2.2.2.2⟩)
          rw[← HW.out]
          clear HW aK e0 e1 x0 x1
          have hrow:=row_cell aI.out.2.2.1 x HXN.out.2.2.2.2.2.2.2.2.2.1 HXN.out.2.2.2.2.2.2.2.2.2.2
          have z6:=hrow.2
          have c6:=hrow.1
          clear hrow
          go_wp2_with (fail)
          obtain⟨bF,HW⟩: ∃z,Aside0 (z=aU.setCell ⟨gN,x.toNat,none⟩ (.int .i64 xn)):=⟨_,⟨rfl⟩⟩
          rw[← HW.out]
          have bE:=Aside0.mk (show SJ w g n m Q b' cc' (.slice (some ad) m c10) s.ld gp #[.slice aC nk aB,.slice aA nb aD] g6 bF∧bF.heap[gD]? =some (.cells #[.slice (some ⟨gN,0,none⟩) nb aE,.int .i64 L] 44 (0,0))∧Kd.R (Kd.int .i64) 2 bF w.heap.size (fun _=>True) (.slice (some ⟨gN,0,none⟩) nb aE) (slvI nb l2 XN (c+1))from by
           rw[HW.out]
           refine⟨aI.out.1.far aI.out.2.2.2 HGN.out.2 (by decide) (by decide) (by decide) (by decide) (fun e=>blk_ne aI.out.1.h6 aI.out.2.2.2 (by decide) e) _ _,blk_far aI.out.2.1 (fun e=>blk_ne aI.out.2.1 aI.out.2.2.2 (by decide) e) _,?_⟩
           rw[slvI,← HXN.out.2.1,← HXN.out.2.2.2.2.2.2.2.2.1]
           exact Kd.R_putn aI.out.2.2.1 x xn)
          clear HW aI z6 c6
          go_roundg gs
          case measure=>omega
          case rel=>
           have h1:=HC.out;have h2:=C3.out;have h3:=bG.out
           have hw:=wrap_id (ci+1) (by omega) (by omega)
           exact⟨c+1,ci+1,by rw[hw],⟨by omega,by omega,by omega⟩,bE⟩
         ·have C3:=Aside0.mk (show c=m from by have:=HC.out;omega)
          have d3:decide (ci<(m:Int))=false:=decide_eq_false (by have:=HC.out;have:=C3.out;omega)
          clear c3
          have f6a:=(blk_cell HJ.out.1.h6 0).trans rfl
          have f6b:=(blk_cell HJ.out.1.h6 1).trans rfl
          have z6a:=blk_frozen HJ.out.1.h6 0
          have z6b:=blk_frozen HJ.out.1.h6 1
          have e0:=(blk_cell HJ.out.2.1 0).trans rfl
          have e1:=(blk_cell HJ.out.2.1 1).trans rfl
          go_wp2_with (fail)
          (try simp only[Exit.inBlock,Exit.then])
          refine bodyPost_ret (results_ct rfl _ _ g6 44 #[.slice aF nb aE,.int .i64 L] (0,0) _ rfl (by have t2':=blk_set (blk_set HJ.out.1.h6 0 (.slice aF nb aE)) 1 (.int .i64 L);simpa using t2') Try.underlying44 rfl (by kernel_rfl)) rfl ?_
          have hLL:lcmD (fun c=>((Q c m).den:Int)) m=L:=by rw[HLC.out.1,show dq=(fun c=>((Q c m).den:Int))from funext HLC.out.2.2.2.2.2.1]
          have hX:(fun c=>(Q c m).num*(L / ((Q c m).den:Int)))=XN:=funext fun c=>(HLC.out.2.2.2.2.2.2 c).symm
          rw[hLL,hX]
          refine⟨.slice aF nb aE,rfl,?_,below_set (below_set HJ.out.1.bw HJ.out.1.l6) HJ.out.1.l6⟩
          have hR:=HJ.out.2.2
          rw[C3.out]at hR
          have r0:=Kd.R_set hR HJ.out.1.h6 (by simp[Kd.int,Kd.scalar]) 0 (.slice aF nb aE)
          have f9:=blk_set HJ.out.1.h6 0 (.slice aF nb aE)
          exact Kd.R_set r0 f9 (by simp[Kd.int,Kd.scalar]) 1 (.int .i64 L)
 ·rw[if_neg hk]at h;cases h
end
/-! ### impl_SolveBars: function 19 -/
def impl_SolveBars.f (k:Nat) (aB:List (S90)) (aC:List (S104)) (l1:List (S76)) (l2:List Int):Option (List Int×Int×Int):=(impl_ValidLoads.f k aB aC l1).bind fun aD=>(if aD=true then((impl_areBars.f k aB aC l2).bind fun aE=>(if aE=true then((impl_solveBars.f aB aC l1 l2).bind fun aA=>(if aA.2.2=true then(some (aA.1,aA.2.1,0))else(some (([]:List Int),0,3))))else(some (([]:List Int),0,2))))else(some (([]:List Int),0,1)))
theorem impl_SolveBars.mono: ∀a0 a1 a2 a3 k,LeO (impl_SolveBars.f k a0 a1 a2 a3) (impl_SolveBars.f (k+1) a0 a1 a2 a3):=by
 intro a0 a1 a2 a3 k
 unfold impl_SolveBars.f
 repeat' first
  |(with_reducible exact impl_ValidLoads.mono _ _ _ _)
  |(with_reducible exact impl_areBars.mono _ _ _ _)
  |(with_reducible exact LeO.refl _)
  |(with_reducible exact LeO.none _)
  |(with_reducible refine LeO.ite ?_ ?_)
  |(with_reducible refine LeO.bind ?_ (fun _=>?_))
  |exact LeO.none _
  |refine LeO.ite ?_ ?_
  |refine LeO.bind ?_ (fun _=>?_)
set_option maxHeartbeats 8000000 in
set_option maxRecDepth 100000 in
theorem impl_SolveBars.calls (k:Nat) (aU:Option Addr) (aV:Nat) (aG:List (S90)) (aT:Option Addr) (aW:Nat) (aF:List (S104)) (A1:Option Addr) (c1:Nat) (l1:List (S76)) (A2:Option Addr) (c2:Nat) (l2:List Int) (r1:List Int) (r2:Int) (r3:Int) (w:World) (bT:Kd.C k90 w aU aG.length aG) (bU:aG.length≤aV) (bS:Kd.C k104 w aT aF.length aF) (bR:aF.length≤aW) (eR:Kd.C k76 w A1 l1.length l1) (fL:l1.length≤c1) (fF:Kd.C (Kd.int .i64) w A2 l2.length l2) (fI:l2.length≤c2) (h:impl_SolveBars.f k aG aF l1 l2=some (r1,r2,r3)):
 Calls Try.prog 19 #[.agg #[.slice aU aG.length aV,.slice aT aF.length aW],.slice A1 l1.length c1,.slice A2 l2.length c2] w fun e w'=>∃v0_:Value,e= .returned (.tuple #[.agg #[v0_,.int .i64 r2],.int .i64 r3])∧Kd.R (Kd.int .i64) 2 w' w.heap.size (fun _=>True) v0_ r1∧Below w.heap.size w w':=by
 have fX:=Try.underlying33;have fZ:=Try.underlying44;have bA:=A' bT;have aZ:=A' bU;clear bT bU;have bB:=A' bS;have bC:=A' bR;clear bS bR;have bW:=A' eR;have bV:=A' fL;clear eR fL;have cB:=A' fF;have bY:=A' fI;clear fF fI;have HB:=A' (Below.refl w.heap.size w);have H:((impl_ValidLoads.f k aG aF l1).bind fun bO=>(if bO=true then((impl_areBars.f k aG aF l2).bind fun bH=>(if bH=true then((impl_solveBars.f aG aF l1 l2).bind fun aJ=>(if aJ.2.2=true then(some (aJ.1,aJ.2.1,0))else(some (([]:List Int),0,3))))else(some (([]:List Int),0,2))))else(some (([]:List Int),0,1))))=some (r1,r2,r3):=h;clear h;replace H:=Option.bind_eq_some_iff.mp H;obtain⟨bO,fQ,H⟩:=H;replace H:(if bO=true then((impl_areBars.f k aG aF l2).bind fun bH=>(if bH=true then((impl_solveBars.f aG aF l1 l2).bind fun aJ=>(if aJ.2.2=true then(some (aJ.1,aJ.2.1,0))else(some (([]:List Int),0,3))))else(some (([]:List Int),0,2))))else(some (([]:List Int),0,1)))=some (r1,r2,r3):=H;have A4:=A' fQ;clear fQ
 by_cases c5:bO=true
 ·subst c5;have H1:((impl_areBars.f k aG aF l2).bind fun bH=>(if bH=true then((impl_solveBars.f aG aF l1 l2).bind fun aJ=>(if aJ.2.2=true then(some (aJ.1,aJ.2.1,0))else(some (([]:List Int),0,3))))else(some (([]:List Int),0,2))))=some (r1,r2,r3):=by rw[if_pos rfl]at H;exact H
  clear H;have H:=H1;clear H1;replace H:=Option.bind_eq_some_iff.mp H;obtain⟨bH,fD,H⟩:=H;replace H:(if bH=true then((impl_solveBars.f aG aF l1 l2).bind fun aJ=>(if aJ.2.2=true then(some (aJ.1,aJ.2.1,0))else(some (([]:List Int),0,3))))else(some (([]:List Int),0,2)))=some (r1,r2,r3):=H;have A6:=A' fD;clear fD
  by_cases c7:bH=true
  ·subst c7;have H1:((impl_solveBars.f aG aF l1 l2).bind fun aJ=>(if aJ.2.2=true then(some (aJ.1,aJ.2.1,0))else(some (([]:List Int),0,3))))=some (r1,r2,r3):=by rw[if_pos rfl]at H;exact H
   clear H;have H:=H1;clear H1;replace H:=Option.bind_eq_some_iff.mp H;obtain⟨⟨bG,bI,bZ⟩,eY,H⟩:=H;replace H:(if bZ=true then(some (bG,bI,0))else(some (([]:List Int),0,3)))=some (r1,r2,r3):=H;have A8:=A' eY;clear eY
   by_cases c9:bZ=true
   ·subst c9;have H1:(some (bG,bI,0))=some (r1,r2,r3):=by rw[if_pos rfl]at H;exact H
    clear H;have H:=H1;clear H1;simp only[Option.some.injEq,Prod.mk.injEq]at H;obtain⟨rfl,rfl,rfl⟩:=H;go_enter Try.func19,Try.ntmps19;go_wp2_with (first|((with_reducible refine gate_dst (N:=3) rfl ?_);refine box_event ?hg (N:=3) ?hd (cs:=#[.slice aU aG.length aV,.slice aT aF.length aW]) (t:=33) ?hr ?_;(case hd=>rfl);(case hg=>rfl);(case hr=>first|(go_simp;done)|(go_simp;rfl));intro aB hg gF hbox hb;have n0_:=A' (W' (qK0 HB.out) hb);have n1_:=A' (hbox);have n2_:=A' ((by rw[hg];exact(V' (qK0 HB.out)):w.heap.size≤aB));have n3_:=A' ((by rw[hg];exact(V' (qK0 HB.out)):w.heap.size≤aB));clear HB;have HB:=n0_;have aA:=n1_;have bK:=n2_;have aE:=n3_;clear n0_ n1_ n2_ n3_;clear hb hbox hg)|((with_reducible refine gate_dst (N:=6) rfl ?_);refine box_event ?hg (N:=6) ?hd (cs:=#[.slice none 0 0,.int .i64 0]) (t:=44) ?hr ?_;(case hd=>rfl);(case hg=>rfl);(case hr=>first|(go_simp;done)|(go_simp;rfl));intro aD hg eU hbox hb;have n0_:=A' (O' (g:=aB) (qB aA.out) hb);have n1_:=A' (W' (qK1 HB.out aE.out) hb);have n2_:=A' (hbox);have n3_:=A' ((by rw[hg];exact(V' (qK1 HB.out aE.out)):w.heap.size≤aD));have n4_:=A' ((by rw[hg];exact(V' (qK1 HB.out aE.out)):w.heap.size≤aD));have n5_:=A' ((by rw[hg];exact Nat.ne_of_lt (bL' (g:=aB) (qB aA.out)):aB≠aD));have n6_:=A' ((by rw[hg];exact Nat.ne_of_gt (bL' (g:=aB) (qB aA.out)):aD≠aB));clear aA;clear HB;have aA:=n0_;have HB:=n1_;have aC:=n2_;have bJ:=n3_;have aH:=n4_;have aK:=n5_;have aM:=n6_;clear n0_ n1_ n2_ n3_ n4_ n5_ n6_;clear hb hbox hg;have fJ:=aK.out;have fV:=aM.out;have dY:eU.cell? ⟨aB,0,none⟩=some (.slice aU aG.length aV):=(N' aA.out 0).trans rfl;have cY:eU.cell? ⟨aB,1,none⟩=some (.slice aT aF.length aW):=(N' aA.out 1).trans rfl;have dU:=Y' aA.out 0;have cH:=Y' aA.out 1)|((with_reducible refine gate_callee (f:=44) rfl ?_);refine goesL_ (some 12) rfl rfl Try.func44 (by kernel_rfl) rfl #[.agg #[.slice aU aG.length aV,.slice aT aF.length aW],.slice A1 l1.length c1] rfl (by(try simp only[List.map_toArray,List.map_cons,List.map_nil]);first|done|rfl|(simp only[List.length_drop,List.length_take];rfl)) ?_;(with_reducible refine(impl_ValidLoads.calls k _ _ aG _ _ aF _ _ l1 true _ ?aP ?aO ?aN ?aQ ?aR ?aS A4.out).mono ?_);(case aP=>exact qT (X' bA.out HB.out));(case aO=>exact aZ.out);(case aN=>exact qT (X' bB.out HB.out));(case aQ=>exact bC.out);(case aR=>exact qT (X' bW.out HB.out));(case aS=>exact bV.out);rintro e fN ⟨rfl,hb⟩;refine⟨_,rfl,?_⟩;replace aA:=A' (O' (g:=aB) (qB aA.out) hb);replace aC:=A' (O' (g:=aD) (qB aC.out) hb);replace HB:=A' (W' (qK2 HB.out aE.out aH.out) hb);(try clear hb);(try clear hb2);(try clear hk);(try clear hi);have dW:fN.cell? ⟨aB,0,none⟩=some (.slice aU aG.length aV):=(N' aA.out 0).trans rfl;have dA:fN.cell? ⟨aB,1,none⟩=some (.slice aT aF.length aW):=(N' aA.out 1).trans rfl;have cQ:=Y' aA.out 0;have cN:=Y' aA.out 1)|((with_reducible refine gate_callee (f:=54) rfl ?_);refine goesL_ (some 17) rfl rfl Try.func54 (by kernel_rfl) rfl #[.agg #[.slice aU aG.length aV,.slice aT aF.length aW],.slice A2 l2.length c2] rfl (by(try simp only[List.map_toArray,List.map_cons,List.map_nil]);first|done|rfl|(simp only[List.length_drop,List.length_take];rfl)) ?_;(with_reducible refine(impl_areBars.calls k _ _ aG _ _ aF _ _ l2 true _ ?aP ?aO ?aN ?aQ ?aR ?aS A6.out).mono ?_);(case aP=>exact qT (X' bA.out HB.out));(case aO=>exact aZ.out);(case aN=>exact qT (X' bB.out HB.out));(case aQ=>exact bC.out);(case aR=>exact qT (X' cB.out HB.out));(case aS=>exact bY.out);rintro e fE ⟨rfl,hb⟩;refine⟨_,rfl,?_⟩;replace aA:=A' (O' (g:=aB) (qB aA.out) hb);replace aC:=A' (O' (g:=aD) (qB aC.out) hb);replace HB:=A' (W' (qK2 HB.out aE.out aH.out) hb);(try clear hb);(try clear hb2);(try clear hk);(try clear hi);have dO:fE.cell? ⟨aB,0,none⟩=some (.slice aU aG.length aV):=(N' aA.out 0).trans rfl;have dG:fE.cell? ⟨aB,1,none⟩=some (.slice aT aF.length aW):=(N' aA.out 1).trans rfl;have eB:=Y' aA.out 0;have dH:=Y' aA.out 1)|((with_reducible refine gate_callee (f:=64) rfl ?_);refine goesL_ (some 24) rfl rfl Try.func64 (by kernel_rfl) rfl #[.agg #[.slice aU aG.length aV,.slice aT aF.length aW],.slice A1 l1.length c1,.slice A2 l2.length c2] rfl (by(try simp only[List.map_toArray,List.map_cons,List.map_nil]);first|done|rfl|(simp only[List.length_drop,List.length_take];rfl)) ?_;(with_reducible refine(impl_solveBars.calls _ _ aG _ _ aF _ _ l1 _ _ l2 bG bI true _ ?aP ?aO ?aN ?aQ ?aR ?aS ?bN ?bL A8.out).mono ?_);(case aP=>exact qT (X' bA.out HB.out));(case aO=>exact aZ.out);(case aN=>exact qT (X' bB.out HB.out));(case aQ=>exact bC.out);(case aR=>exact qT (X' bW.out HB.out));(case aS=>exact bV.out);(case bN=>exact qT (X' cB.out HB.out));(case bL=>exact bY.out);rintro e gC ⟨eM,rfl,cA,hb⟩;refine⟨_,rfl,?_⟩;have n0_:=A' (Kd.R_lower cA (V' (qK2 HB.out aE.out aH.out)));have n1_:=A' (O' (g:=aB) (qB aA.out) hb);have n2_:=A' (O' (g:=aD) (qB aC.out) hb);have n3_:=A' (W' (qK2 HB.out aE.out aH.out) hb);clear aA;clear aC;clear HB;have aY:=n0_;have aA:=n1_;have aC:=n2_;have HB:=n3_;clear n0_ n1_ n2_ n3_;(try clear hb);(try clear hb2);(try clear hk);(try clear hi);(try clear cA))|((with_reducible refine gate_dst (N:=8) rfl ?_);refine box_event ?hg (N:=8) ?hd (cs:=#[.slice none 0 0,.int .i64 0]) (t:=44) ?hr ?_;(case hd=>rfl);(case hg=>rfl);(case hr=>first|(go_simp;done)|(go_simp;rfl));intro aI hg cW hbox hb;have n0_:=A' (L' (qR aY.out) hb);have n1_:=A' (O' (g:=aB) (qB aA.out) hb);have n2_:=A' (O' (g:=aD) (qB aC.out) hb);have n3_:=A' (W' (qK2 HB.out aE.out aH.out) hb);have n4_:=A' (hbox);have n5_:=A' ((by rw[hg];exact(V' (qK2 HB.out aE.out aH.out)):w.heap.size≤aI));have n6_:=A' ((by rw[hg];exact(V' (qK2 HB.out aE.out aH.out)):w.heap.size≤aI));have n7_:=A' ((by rw[hg];exact Nat.ne_of_lt (bL' (g:=aB) (qB aA.out)):aB≠aI));have n8_:=A' ((by rw[hg];exact Nat.ne_of_gt (bL' (g:=aB) (qB aA.out)):aI≠aB));have n9_:=A' ((by rw[hg];exact Nat.ne_of_lt (bL' (g:=aD) (qB aC.out)):aD≠aI));have n10_:=A' ((by rw[hg];exact Nat.ne_of_gt (bL' (g:=aD) (qB aC.out)):aI≠aD));clear aY;clear aA;clear aC;clear HB;have aY:=n0_;have aA:=n1_;have aC:=n2_;have HB:=n3_;have aX:=n4_;have bX:=n5_;have bM:=n6_;have bD:=n7_;have bF:=n8_;have aL:=n9_;have bE:=n10_;clear n0_ n1_ n2_ n3_ n4_ n5_ n6_ n7_ n8_ n9_ n10_;clear hb hbox hg;obtain⟨bP,bQ,eN⟩:=Kd.R_slice aY.out;subst eN;have eW:=bF.out;have fK:=bD.out;have eP:=bE.out;have fH:=aL.out;have eF:cW.cell? ⟨aI,0,none⟩=some (.slice none 0 0):=(N' aX.out 0).trans rfl;have eD:cW.cell? ⟨aI,1,none⟩=some (.int .i64 0):=(N' aX.out 1).trans rfl;have eK:=Y' aX.out 0;have dV:=Y' aX.out 1;have eL:cW.cell? ⟨aD,0,none⟩=some (.slice none 0 0):=(N' aC.out 0).trans rfl;have dC:cW.cell? ⟨aD,1,none⟩=some (.int .i64 0):=(N' aC.out 1).trans rfl;have dX:=Y' aC.out 0;have eC:=Y' aC.out 1));refine bodyPost_ret (results_ct rfl _ _ aD 44 #[.slice bP bG.length bQ,.int .i64 bI] (0,0) _ rfl (by(with_reducible repeat(first|refine G' ?_ _|refine I' ?_|refine hA' ?_ _));refine blk_put (cs:=#[.slice bP bG.length bQ,.int .i64 0]) ?_ 1 _ rfl;(with_reducible repeat(first|refine G' ?_ _|refine I' ?_|refine hA' ?_ _));refine blk_put (cs:=#[.slice none 0 0,.int .i64 0]) ?_ 0 _ rfl;(with_reducible repeat(first|refine G' ?_ _|refine I' ?_|refine hA' ?_ _));refine bF' ?_ aL.out _;(with_reducible repeat(first|refine G' ?_ _|refine I' ?_|refine hA' ?_ _));refine bF' ?_ aL.out _;(with_reducible repeat(first|refine G' ?_ _|refine I' ?_|refine hA' ?_ _));exact aC.out) Try.underlying44 rfl (by kernel_rfl)) rfl ?_;exact⟨_,qE,by(with_reducible repeat(first|apply B'|apply C'|apply D'));exact Q' (M' (p:=⟨aD,1,none⟩) (M' (p:=⟨aD,0,none⟩) (M' (p:=⟨aI,1,none⟩) (M' (p:=⟨aI,0,none⟩) (P' (P' aY.out aX.out (by decide)) aC.out (by decide)) (fun _ hk=>hk.1.2) (.slice bP bG.length bQ)) (fun _ hk=>hk.1.2) (.int .i64 bI)) (fun _ hk=>hk.2) (.slice bP bG.length bQ)) (fun _ hk=>hk.2) (.int .i64 bI)) (fun _ hk=>trivial),qK3 HB.out aE.out aH.out bM.out⟩
   ·replace c9:=Bool.eq_false_iff.mpr c9;subst c9;have H1:(some (([]:List Int),0,3))=some (r1,r2,r3):=by rw[if_neg (show¬(false=true) by decide)]at H;exact H
    clear H;have H:=H1;clear H1;simp only[Option.some.injEq,Prod.mk.injEq]at H;obtain⟨rfl,rfl,rfl⟩:=H;go_enter Try.func19,Try.ntmps19;go_wp2_with (first|((with_reducible refine gate_dst (N:=3) rfl ?_);refine box_event ?hg (N:=3) ?hd (cs:=#[.slice aU aG.length aV,.slice aT aF.length aW]) (t:=33) ?hr ?_;(case hd=>rfl);(case hg=>rfl);(case hr=>first|(go_simp;done)|(go_simp;rfl));intro aB hg gG hbox hb;have n0_:=A' (W' (qK0 HB.out) hb);have n1_:=A' (hbox);have n2_:=A' ((by rw[hg];exact(V' (qK0 HB.out)):w.heap.size≤aB));have n3_:=A' ((by rw[hg];exact(V' (qK0 HB.out)):w.heap.size≤aB));clear HB;have HB:=n0_;have aA:=n1_;have bK:=n2_;have aE:=n3_;clear n0_ n1_ n2_ n3_;clear hb hbox hg)|((with_reducible refine gate_dst (N:=6) rfl ?_);refine box_event ?hg (N:=6) ?hd (cs:=#[.slice none 0 0,.int .i64 0]) (t:=44) ?hr ?_;(case hd=>rfl);(case hg=>rfl);(case hr=>first|(go_simp;done)|(go_simp;rfl));intro aD hg fP hbox hb;have n0_:=A' (O' (g:=aB) (qB aA.out) hb);have n1_:=A' (W' (qK1 HB.out aE.out) hb);have n2_:=A' (hbox);have n3_:=A' ((by rw[hg];exact(V' (qK1 HB.out aE.out)):w.heap.size≤aD));have n4_:=A' ((by rw[hg];exact(V' (qK1 HB.out aE.out)):w.heap.size≤aD));have n5_:=A' ((by rw[hg];exact Nat.ne_of_lt (bL' (g:=aB) (qB aA.out)):aB≠aD));have n6_:=A' ((by rw[hg];exact Nat.ne_of_gt (bL' (g:=aB) (qB aA.out)):aD≠aB));clear aA;clear HB;have aA:=n0_;have HB:=n1_;have aC:=n2_;have bJ:=n3_;have aH:=n4_;have aK:=n5_;have aM:=n6_;clear n0_ n1_ n2_ n3_ n4_ n5_ n6_;clear hb hbox hg;have fS:=aK.out;have eX:=aM.out;have dZ:fP.cell? ⟨aB,0,none⟩=some (.slice aU aG.length aV):=(N' aA.out 0).trans rfl;have eJ:fP.cell? ⟨aB,1,none⟩=some (.slice aT aF.length aW):=(N' aA.out 1).trans rfl;have dN:=Y' aA.out 0;have cT:=Y' aA.out 1)|((with_reducible refine gate_callee (f:=44) rfl ?_);refine goesL_ (some 12) rfl rfl Try.func44 (by kernel_rfl) rfl #[.agg #[.slice aU aG.length aV,.slice aT aF.length aW],.slice A1 l1.length c1] rfl (by(try simp only[List.map_toArray,List.map_cons,List.map_nil]);first|done|rfl|(simp only[List.length_drop,List.length_take];rfl)) ?_;(with_reducible refine(impl_ValidLoads.calls k _ _ aG _ _ aF _ _ l1 true _ ?aP ?aO ?aN ?aQ ?aR ?aS A4.out).mono ?_);(case aP=>exact qT (X' bA.out HB.out));(case aO=>exact aZ.out);(case aN=>exact qT (X' bB.out HB.out));(case aQ=>exact bC.out);(case aR=>exact qT (X' bW.out HB.out));(case aS=>exact bV.out);rintro e eZ ⟨rfl,hb⟩;refine⟨_,rfl,?_⟩;replace aA:=A' (O' (g:=aB) (qB aA.out) hb);replace aC:=A' (O' (g:=aD) (qB aC.out) hb);replace HB:=A' (W' (qK2 HB.out aE.out aH.out) hb);(try clear hb);(try clear hb2);(try clear hk);(try clear hi);have cE:eZ.cell? ⟨aB,0,none⟩=some (.slice aU aG.length aV):=(N' aA.out 0).trans rfl;have eA:eZ.cell? ⟨aB,1,none⟩=some (.slice aT aF.length aW):=(N' aA.out 1).trans rfl;have dF:=Y' aA.out 0;have dQ:=Y' aA.out 1)|((with_reducible refine gate_callee (f:=54) rfl ?_);refine goesL_ (some 17) rfl rfl Try.func54 (by kernel_rfl) rfl #[.agg #[.slice aU aG.length aV,.slice aT aF.length aW],.slice A2 l2.length c2] rfl (by(try simp only[List.map_toArray,List.map_cons,List.map_nil]);first|done|rfl|(simp only[List.length_drop,List.length_take];rfl)) ?_;(with_reducible refine(impl_areBars.calls k _ _ aG _ _ aF _ _ l2 true _ ?aP ?aO ?aN ?aQ ?aR ?aS A6.out).mono ?_);(case aP=>exact qT (X' bA.out HB.out));(case aO=>exact aZ.out);(case aN=>exact qT (X' bB.out HB.out));(case aQ=>exact bC.out);(case aR=>exact qT (X' cB.out HB.out));(case aS=>exact bY.out);rintro e fR ⟨rfl,hb⟩;refine⟨_,rfl,?_⟩;replace aA:=A' (O' (g:=aB) (qB aA.out) hb);replace aC:=A' (O' (g:=aD) (qB aC.out) hb);replace HB:=A' (W' (qK2 HB.out aE.out aH.out) hb);(try clear hb);(try clear hb2);(try clear hk);(try clear hi);have dD:fR.cell? ⟨aB,0,none⟩=some (.slice aU aG.length aV):=(N' aA.out 0).trans rfl;have cF:fR.cell? ⟨aB,1,none⟩=some (.slice aT aF.length aW):=(N' aA.out 1).trans rfl;have dR:=Y' aA.out 0;have cM:=Y' aA.out 1)|((with_reducible refine gate_callee (f:=64) rfl ?_);refine goesL_ (some 24) rfl rfl Try.func64 (by kernel_rfl) rfl #[.agg #[.slice aU aG.length aV,.slice aT aF.length aW],.slice A1 l1.length c1,.slice A2 l2.length c2] rfl (by(try simp only[List.map_toArray,List.map_cons,List.map_nil]);first|done|rfl|(simp only[List.length_drop,List.length_take];rfl)) ?_;(with_reducible refine(impl_solveBars.calls _ _ aG _ _ aF _ _ l1 _ _ l2 bG bI false _ ?aP ?aO ?aN ?aQ ?aR ?aS ?bN ?bL A8.out).mono ?_);(case aP=>exact qT (X' bA.out HB.out));(case aO=>exact aZ.out);(case aN=>exact qT (X' bB.out HB.out));(case aQ=>exact bC.out);(case aR=>exact qT (X' bW.out HB.out));(case aS=>exact bV.out);(case bN=>exact qT (X' cB.out HB.out));(case bL=>exact bY.out);rintro e gB ⟨eM,rfl,cA,hb⟩;refine⟨_,rfl,?_⟩;have n0_:=A' (Kd.R_lower cA (V' (qK2 HB.out aE.out aH.out)));have n1_:=A' (O' (g:=aB) (qB aA.out) hb);have n2_:=A' (O' (g:=aD) (qB aC.out) hb);have n3_:=A' (W' (qK2 HB.out aE.out aH.out) hb);clear aA;clear aC;clear HB;have aY:=n0_;have aA:=n1_;have aC:=n2_;have HB:=n3_;clear n0_ n1_ n2_ n3_;(try clear hb);(try clear hb2);(try clear hk);(try clear hi);(try clear cA))|((with_reducible refine gate_dst (N:=8) rfl ?_);refine box_event ?hg (N:=8) ?hd (cs:=#[.slice none 0 0,.int .i64 0]) (t:=44) ?hr ?_;(case hd=>rfl);(case hg=>rfl);(case hr=>first|(go_simp;done)|(go_simp;rfl));intro aI hg cL hbox hb;have n0_:=A' (L' (qR aY.out) hb);have n1_:=A' (O' (g:=aB) (qB aA.out) hb);have n2_:=A' (O' (g:=aD) (qB aC.out) hb);have n3_:=A' (W' (qK2 HB.out aE.out aH.out) hb);have n4_:=A' (hbox);have n5_:=A' ((by rw[hg];exact(V' (qK2 HB.out aE.out aH.out)):w.heap.size≤aI));have n6_:=A' ((by rw[hg];exact(V' (qK2 HB.out aE.out aH.out)):w.heap.size≤aI));have n7_:=A' ((by rw[hg];exact Nat.ne_of_lt (bL' (g:=aB) (qB aA.out)):aB≠aI));have n8_:=A' ((by rw[hg];exact Nat.ne_of_gt (bL' (g:=aB) (qB aA.out)):aI≠aB));have n9_:=A' ((by rw[hg];exact Nat.ne_of_lt (bL' (g:=aD) (qB aC.out)):aD≠aI));have n10_:=A' ((by rw[hg];exact Nat.ne_of_gt (bL' (g:=aD) (qB aC.out)):aI≠aD));clear aY;clear aA;clear aC;clear HB;have aY:=n0_;have aA:=n1_;have aC:=n2_;have HB:=n3_;have aX:=n4_;have bX:=n5_;have bM:=n6_;have bD:=n7_;have bF:=n8_;have aL:=n9_;have bE:=n10_;clear n0_ n1_ n2_ n3_ n4_ n5_ n6_ n7_ n8_ n9_ n10_;clear hb hbox hg;obtain⟨gA,fY,eO⟩:=Kd.R_slice aY.out;subst eO;have eV:=bF.out;have fM:=bD.out;have fW:=bE.out;have eS:=aL.out;have dM:cL.cell? ⟨aI,0,none⟩=some (.slice none 0 0):=(N' aX.out 0).trans rfl;have eH:cL.cell? ⟨aI,1,none⟩=some (.int .i64 0):=(N' aX.out 1).trans rfl;have dE:=Y' aX.out 0;have dT:=Y' aX.out 1;have cP:cL.cell? ⟨aD,0,none⟩=some (.slice none 0 0):=(N' aC.out 0).trans rfl;have dI:cL.cell? ⟨aD,1,none⟩=some (.int .i64 0):=(N' aC.out 1).trans rfl;have cS:=Y' aC.out 0;have cI:=Y' aC.out 1));refine bodyPost_ret (results_ct rfl _ _ aD 44 #[.slice none 0 0,.int .i64 0] (0,0) _ rfl (by(with_reducible repeat(first|refine G' ?_ _|refine I' ?_|refine hA' ?_ _));refine blk_put (cs:=#[.slice none 0 0,.int .i64 0]) ?_ 1 _ rfl;(with_reducible repeat(first|refine G' ?_ _|refine I' ?_|refine hA' ?_ _));refine blk_put (cs:=#[.slice none 0 0,.int .i64 0]) ?_ 0 _ rfl;(with_reducible repeat(first|refine G' ?_ _|refine I' ?_|refine hA' ?_ _));refine bF' ?_ aL.out _;(with_reducible repeat(first|refine G' ?_ _|refine I' ?_|refine hA' ?_ _));refine bF' ?_ aL.out _;(with_reducible repeat(first|refine G' ?_ _|refine I' ?_|refine hA' ?_ _));exact aC.out) Try.underlying44 rfl (by kernel_rfl)) rfl ?_;exact⟨_,qE,by first|exact Kd.R_nil _ _ _ _ _|exact Kd.N_nil _ _ _ _ _|exact Kd.V_nil _ _ _ _ _|exact Kd.Q_nil _ _ _ _ _|exact Kd.S_nil _ _ _ _ _,qK3 HB.out aE.out aH.out bM.out⟩
  ·replace c7:=Bool.eq_false_iff.mpr c7;subst c7;have H1:(some (([]:List Int),0,2))=some (r1,r2,r3):=by rw[if_neg (show¬(false=true) by decide)]at H;exact H
   clear H;have H:=H1;clear H1;simp only[Option.some.injEq,Prod.mk.injEq]at H;obtain⟨rfl,rfl,rfl⟩:=H;go_enter Try.func19,Try.ntmps19;go_wp2_with (first|((with_reducible refine gate_dst (N:=3) rfl ?_);refine box_event ?hg (N:=3) ?hd (cs:=#[.slice aU aG.length aV,.slice aT aF.length aW]) (t:=33) ?hr ?_;(case hd=>rfl);(case hg=>rfl);(case hr=>first|(go_simp;done)|(go_simp;rfl));intro aB hg gE hbox hb;have n0_:=A' (W' (qK0 HB.out) hb);have n1_:=A' (hbox);have n2_:=A' ((by rw[hg];exact(V' (qK0 HB.out)):w.heap.size≤aB));have n3_:=A' ((by rw[hg];exact(V' (qK0 HB.out)):w.heap.size≤aB));clear HB;have HB:=n0_;have aA:=n1_;have bK:=n2_;have aE:=n3_;clear n0_ n1_ n2_ n3_;clear hb hbox hg)|((with_reducible refine gate_dst (N:=6) rfl ?_);refine box_event ?hg (N:=6) ?hd (cs:=#[.slice none 0 0,.int .i64 0]) (t:=44) ?hr ?_;(case hd=>rfl);(case hg=>rfl);(case hr=>first|(go_simp;done)|(go_simp;rfl));intro aD hg fB hbox hb;have n0_:=A' (O' (g:=aB) (qB aA.out) hb);have n1_:=A' (W' (qK1 HB.out aE.out) hb);have n2_:=A' (hbox);have n3_:=A' ((by rw[hg];exact(V' (qK1 HB.out aE.out)):w.heap.size≤aD));have n4_:=A' ((by rw[hg];exact(V' (qK1 HB.out aE.out)):w.heap.size≤aD));have n5_:=A' ((by rw[hg];exact Nat.ne_of_lt (bL' (g:=aB) (qB aA.out)):aB≠aD));have n6_:=A' ((by rw[hg];exact Nat.ne_of_gt (bL' (g:=aB) (qB aA.out)):aD≠aB));clear aA;clear HB;have aA:=n0_;have HB:=n1_;have aC:=n2_;have bJ:=n3_;have aH:=n4_;have aK:=n5_;have aM:=n6_;clear n0_ n1_ n2_ n3_ n4_ n5_ n6_;clear hb hbox hg;have eQ:=aK.out;have fO:=aM.out;have cK:fB.cell? ⟨aB,0,none⟩=some (.slice aU aG.length aV):=(N' aA.out 0).trans rfl;have cX:fB.cell? ⟨aB,1,none⟩=some (.slice aT aF.length aW):=(N' aA.out 1).trans rfl;have dS:=Y' aA.out 0;have dP:=Y' aA.out 1)|((with_reducible refine gate_callee (f:=44) rfl ?_);refine goesL_ (some 12) rfl rfl Try.func44 (by kernel_rfl) rfl #[.agg #[.slice aU aG.length aV,.slice aT aF.length aW],.slice A1 l1.length c1] rfl (by(try simp only[List.map_toArray,List.map_cons,List.map_nil]);first|done|rfl|(simp only[List.length_drop,List.length_take];rfl)) ?_;(with_reducible refine(impl_ValidLoads.calls k _ _ aG _ _ aF _ _ l1 true _ ?aP ?aO ?aN ?aQ ?aR ?aS A4.out).mono ?_);(case aP=>exact qT (X' bA.out HB.out));(case aO=>exact aZ.out);(case aN=>exact qT (X' bB.out HB.out));(case aQ=>exact bC.out);(case aR=>exact qT (X' bW.out HB.out));(case aS=>exact bV.out);rintro e fT ⟨rfl,hb⟩;refine⟨_,rfl,?_⟩;replace aA:=A' (O' (g:=aB) (qB aA.out) hb);replace aC:=A' (O' (g:=aD) (qB aC.out) hb);replace HB:=A' (W' (qK2 HB.out aE.out aH.out) hb);(try clear hb);(try clear hb2);(try clear hk);(try clear hi);have dL:fT.cell? ⟨aB,0,none⟩=some (.slice aU aG.length aV):=(N' aA.out 0).trans rfl;have cU:fT.cell? ⟨aB,1,none⟩=some (.slice aT aF.length aW):=(N' aA.out 1).trans rfl;have dB:=Y' aA.out 0;have cO:=Y' aA.out 1)|((with_reducible refine gate_callee (f:=54) rfl ?_);refine goesL_ (some 17) rfl rfl Try.func54 (by kernel_rfl) rfl #[.agg #[.slice aU aG.length aV,.slice aT aF.length aW],.slice A2 l2.length c2] rfl (by(try simp only[List.map_toArray,List.map_cons,List.map_nil]);first|done|rfl|(simp only[List.length_drop,List.length_take];rfl)) ?_;(with_reducible refine(impl_areBars.calls k _ _ aG _ _ aF _ _ l2 false _ ?aP ?aO ?aN ?aQ ?aR ?aS A6.out).mono ?_);(case aP=>exact qT (X' bA.out HB.out));(case aO=>exact aZ.out);(case aN=>exact qT (X' bB.out HB.out));(case aQ=>exact bC.out);(case aR=>exact qT (X' cB.out HB.out));(case aS=>exact bY.out);rintro e fU ⟨rfl,hb⟩;refine⟨_,rfl,?_⟩;replace aA:=A' (O' (g:=aB) (qB aA.out) hb);replace aC:=A' (O' (g:=aD) (qB aC.out) hb);replace HB:=A' (W' (qK2 HB.out aE.out aH.out) hb);(try clear hb);(try clear hb2);(try clear hk);(try clear hi);have cZ:fU.cell? ⟨aD,0,none⟩=some (.slice none 0 0):=(N' aC.out 0).trans rfl;have eI:fU.cell? ⟨aD,1,none⟩=some (.int .i64 0):=(N' aC.out 1).trans rfl;have dK:=Y' aC.out 0;have dJ:=Y' aC.out 1));refine bodyPost_ret (results_ct rfl _ _ aD 44 #[.slice none 0 0,.int .i64 0] (0,0) _ rfl (by(with_reducible repeat(first|refine G' ?_ _|refine I' ?_|refine hA' ?_ _));refine blk_put (cs:=#[.slice none 0 0,.int .i64 0]) ?_ 1 _ rfl;(with_reducible repeat(first|refine G' ?_ _|refine I' ?_|refine hA' ?_ _));refine blk_put (cs:=#[.slice none 0 0,.int .i64 0]) ?_ 0 _ rfl;(with_reducible repeat(first|refine G' ?_ _|refine I' ?_|refine hA' ?_ _));exact aC.out) Try.underlying44 rfl (by kernel_rfl)) rfl ?_;exact⟨_,qE,by first|exact Kd.R_nil _ _ _ _ _|exact Kd.N_nil _ _ _ _ _|exact Kd.V_nil _ _ _ _ _|exact Kd.Q_nil _ _ _ _ _|exact Kd.S_nil _ _ _ _ _,qK2 HB.out aE.out aH.out⟩
 ·replace c5:=Bool.eq_false_iff.mpr c5;subst c5;have H1:(some (([]:List Int),0,1))=some (r1,r2,r3):=by rw[if_neg (show¬(false=true) by decide)]at H;exact H
  clear H;have H:=H1;clear H1;simp only[Option.some.injEq,Prod.mk.injEq]at H;obtain⟨rfl,rfl,rfl⟩:=H;go_enter Try.func19,Try.ntmps19;go_wp2_with (first|((with_reducible refine gate_dst (N:=3) rfl ?_);refine box_event ?hg (N:=3) ?hd (cs:=#[.slice aU aG.length aV,.slice aT aF.length aW]) (t:=33) ?hr ?_;(case hd=>rfl);(case hg=>rfl);(case hr=>first|(go_simp;done)|(go_simp;rfl));intro aB hg gD hbox hb;have n0_:=A' (W' (qK0 HB.out) hb);have n1_:=A' (hbox);have n2_:=A' ((by rw[hg];exact(V' (qK0 HB.out)):w.heap.size≤aB));have n3_:=A' ((by rw[hg];exact(V' (qK0 HB.out)):w.heap.size≤aB));clear HB;have HB:=n0_;have aA:=n1_;have bK:=n2_;have aE:=n3_;clear n0_ n1_ n2_ n3_;clear hb hbox hg)|((with_reducible refine gate_dst (N:=6) rfl ?_);refine box_event ?hg (N:=6) ?hd (cs:=#[.slice none 0 0,.int .i64 0]) (t:=44) ?hr ?_;(case hd=>rfl);(case hg=>rfl);(case hr=>first|(go_simp;done)|(go_simp;rfl));intro aD hg fG hbox hb;have n0_:=A' (O' (g:=aB) (qB aA.out) hb);have n1_:=A' (W' (qK1 HB.out aE.out) hb);have n2_:=A' (hbox);have n3_:=A' ((by rw[hg];exact(V' (qK1 HB.out aE.out)):w.heap.size≤aD));have n4_:=A' ((by rw[hg];exact(V' (qK1 HB.out aE.out)):w.heap.size≤aD));have n5_:=A' ((by rw[hg];exact Nat.ne_of_lt (bL' (g:=aB) (qB aA.out)):aB≠aD));have n6_:=A' ((by rw[hg];exact Nat.ne_of_gt (bL' (g:=aB) (qB aA.out)):aD≠aB));clear aA;clear HB;have aA:=n0_;have HB:=n1_;have aC:=n2_;have bJ:=n3_;have aH:=n4_;have aK:=n5_;have aM:=n6_;clear n0_ n1_ n2_ n3_ n4_ n5_ n6_;clear hb hbox hg;have fC:=aK.out;have fA:=aM.out;have cG:fG.cell? ⟨aB,0,none⟩=some (.slice aU aG.length aV):=(N' aA.out 0).trans rfl;have cJ:fG.cell? ⟨aB,1,none⟩=some (.slice aT aF.length aW):=(N' aA.out 1).trans rfl;have cD:=Y' aA.out 0;have cV:=Y' aA.out 1)|((with_reducible refine gate_callee (f:=44) rfl ?_);refine goesL_ (some 12) rfl rfl Try.func44 (by kernel_rfl) rfl #[.agg #[.slice aU aG.length aV,.slice aT aF.length aW],.slice A1 l1.length c1] rfl (by(try simp only[List.map_toArray,List.map_cons,List.map_nil]);first|done|rfl|(simp only[List.length_drop,List.length_take];rfl)) ?_;(with_reducible refine(impl_ValidLoads.calls k _ _ aG _ _ aF _ _ l1 false _ ?aP ?aO ?aN ?aQ ?aR ?aS A4.out).mono ?_);(case aP=>exact qT (X' bA.out HB.out));(case aO=>exact aZ.out);(case aN=>exact qT (X' bB.out HB.out));(case aQ=>exact bC.out);(case aR=>exact qT (X' bW.out HB.out));(case aS=>exact bV.out);rintro e eT ⟨rfl,hb⟩;refine⟨_,rfl,?_⟩;replace aA:=A' (O' (g:=aB) (qB aA.out) hb);replace aC:=A' (O' (g:=aD) (qB aC.out) hb);replace HB:=A' (W' (qK2 HB.out aE.out aH.out) hb);(try clear hb);(try clear hb2);(try clear hk);(try clear hi);have eE:eT.cell? ⟨aD,0,none⟩=some (.slice none 0 0):=(N' aC.out 0).trans rfl;have eG:eT.cell? ⟨aD,1,none⟩=some (.int .i64 0):=(N' aC.out 1).trans rfl;have cC:=Y' aC.out 0;have cR:=Y' aC.out 1));refine bodyPost_ret (results_ct rfl _ _ aD 44 #[.slice none 0 0,.int .i64 0] (0,0) _ rfl (by(with_reducible repeat(first|refine G' ?_ _|refine I' ?_|refine hA' ?_ _));refine blk_put (cs:=#[.slice none 0 0,.int .i64 0]) ?_ 1 _ rfl;(with_reducible repeat(first|refine G' ?_ _|refine I' ?_|refine hA' ?_ _));refine blk_put (cs:=#[.slice none 0 0,.int .i64 0]) ?_ 0 _ rfl;(with_reducible repeat(first|refine G' ?_ _|refine I' ?_|refine hA' ?_ _));exact aC.out) Try.underlying44 rfl (by kernel_rfl)) rfl ?_;exact⟨_,qE,by first|exact Kd.R_nil _ _ _ _ _|exact Kd.N_nil _ _ _ _ _|exact Kd.V_nil _ _ _ _ _|exact Kd.Q_nil _ _ _ _ _|exact Kd.S_nil _ _ _ _ _,qK2 HB.out aE.out aH.out⟩
/-! ### laws_eqDensities: function 20 -/
def laws_eqDensities.f (k:Nat) (aC:List Int) (aD:Int) (aE:List Int) (aB:Int):Option (Bool):=(laws_eqInt64S.f k aC aE).bind fun aA=>(if aA=true then(if aD=aB then(some true)else(some false))else(some false))
theorem laws_eqDensities.mono: ∀a0 a1 a2 a3 k,LeO (laws_eqDensities.f k a0 a1 a2 a3) (laws_eqDensities.f (k+1) a0 a1 a2 a3):=by
 intro a0 a1 a2 a3 k
 unfold laws_eqDensities.f
 repeat' first
  |(with_reducible exact laws_eqInt64S.mono _ _ _)
  |(with_reducible exact LeO.refl _)
  |(with_reducible exact LeO.none _)
  |(with_reducible refine LeO.ite ?_ ?_)
  |(with_reducible refine LeO.bind ?_ (fun _=>?_))
  |exact LeO.none _
  |refine LeO.ite ?_ ?_
  |refine LeO.bind ?_ (fun _=>?_)
set_option maxHeartbeats 8000000 in
set_option maxRecDepth 100000 in
theorem laws_eqDensities.calls (k:Nat) (aM:Option Addr) (aN:Nat) (aI:List Int) (aJ:Int) (aO:Option Addr) (aL:Nat) (aH:List Int) (aK:Int) (r:Bool) (w:World) (aZ:Kd.C (Kd.int .i64) w aM aI.length aI) (bD:aI.length≤aN) (bB:Kd.C (Kd.int .i64) w aO aH.length aH) (bE:aH.length≤aL) (h:laws_eqDensities.f k aI aJ aH aK=some r):
 Calls Try.prog 20 #[.agg #[.slice aM aI.length aN,.int .i64 aJ],.agg #[.slice aO aH.length aL,.int .i64 aK]] w fun e w'=>e= .returned (.bool r)∧Below w.heap.size w w':=by
 have cM:=Try.underlying44;have aV:=A' aZ;have aX:=A' bD;clear aZ bD;have aU:=A' bB;have aW:=A' bE;clear bB bE;have HB:=A' (Below.refl w.heap.size w);have H:((laws_eqInt64S.f k aI aH).bind fun aY=>(if aY=true then(if aJ=aK then(some true)else(some false))else(some false)))=some r:=h;clear h;replace H:=Option.bind_eq_some_iff.mp H;obtain⟨aY,cJ,H⟩:=H;replace H:(if aY=true then(if aJ=aK then(some true)else(some false))else(some false))=some r:=H;have A3:=A' cJ;clear cJ
 by_cases c4:aY=true
 ·subst c4;have H1:(if aJ=aK then(some true)else(some false))=some r:=by rw[if_pos rfl]at H;exact H
  clear H;have H:=H1;clear H1
  by_cases c5:aJ=aK
  ·rw[if_pos c5]at H;have c5b0:(aJ == aK)=true:=beq_iff_eq.mpr c5;have c5b1:(aJ != aK)=false:=bne_eq_false_iff_eq.mpr c5;clear c5;obtain rfl:=Option.some.inj H;go_enter Try.func20,Try.ntmps20;go_wp2_with (first|((with_reducible refine gate_dst (N:=2) rfl ?_);refine box_event ?hg (N:=2) ?hd (cs:=#[.slice aM aI.length aN,.int .i64 aJ]) (t:=44) ?hr ?_;(case hd=>rfl);(case hg=>rfl);(case hr=>first|(go_simp;done)|(go_simp;rfl));intro aB hg w6 hbox hb;have n0_:=A' (W' (qK0 HB.out) hb);have n1_:=A' (hbox);have n2_:=A' ((by rw[hg];exact(V' (qK0 HB.out)):w.heap.size≤aB));have n3_:=A' ((by rw[hg];exact(V' (qK0 HB.out)):w.heap.size≤aB));clear HB;have HB:=n0_;have aA:=n1_;have bA:=n2_;have aE:=n3_;clear n0_ n1_ n2_ n3_;clear hb hbox hg)|((with_reducible refine gate_dst (N:=3) rfl ?_);refine box_event ?hg (N:=3) ?hd (cs:=#[.slice aO aH.length aL,.int .i64 aK]) (t:=44) ?hr ?_;(case hd=>rfl);(case hg=>rfl);(case hr=>first|(go_simp;done)|(go_simp;rfl));intro aC hg w7 hbox hb;have n0_:=A' (O' (g:=aB) (qB aA.out) hb);have n1_:=A' (W' (qK1 HB.out aE.out) hb);have n2_:=A' (hbox);have n3_:=A' ((by rw[hg];exact(V' (qK1 HB.out aE.out)):w.heap.size≤aC));have n4_:=A' ((by rw[hg];exact(V' (qK1 HB.out aE.out)):w.heap.size≤aC));have n5_:=A' ((by rw[hg];exact Nat.ne_of_lt (bL' (g:=aB) (qB aA.out)):aB≠aC));have n6_:=A' ((by rw[hg];exact Nat.ne_of_gt (bL' (g:=aB) (qB aA.out)):aC≠aB));clear aA;clear HB;have aA:=n0_;have HB:=n1_;have aD:=n2_;have bC:=n3_;have aP:=n4_;have aG:=n5_;have aF:=n6_;clear n0_ n1_ n2_ n3_ n4_ n5_ n6_;clear hb hbox hg;have cL:=aG.out;have cK:=aF.out;have cD:w7.cell? ⟨aB,0,none⟩=some (.slice aM aI.length aN):=(N' aA.out 0).trans rfl;have cC:w7.cell? ⟨aB,1,none⟩=some (.int .i64 aJ):=(N' aA.out 1).trans rfl;have cE:=Y' aA.out 0;have cB:=Y' aA.out 1;have bJ:w7.cell? ⟨aC,0,none⟩=some (.slice aO aH.length aL):=(N' aD.out 0).trans rfl;have bW:w7.cell? ⟨aC,1,none⟩=some (.int .i64 aK):=(N' aD.out 1).trans rfl;have bN:=Y' aD.out 0;have cA:=Y' aD.out 1)|((with_reducible refine gate_callee (f:=13) rfl ?_);refine goesL_ (some 9) rfl rfl Try.func13 (by kernel_rfl) rfl #[.slice aM aI.length aN,.slice aO aH.length aL] rfl (by(try simp only[List.map_toArray,List.map_cons,List.map_nil]);first|done|rfl|(simp only[List.length_drop,List.length_take];rfl)) ?_;(with_reducible refine(laws_eqInt64S.calls k _ _ aI _ _ aH true _ ?aS ?aR ?aQ ?aT A3.out).mono ?_);(case aS=>exact qT (X' aV.out HB.out));(case aR=>exact aX.out);(case aQ=>exact qT (X' aU.out HB.out));(case aT=>exact aW.out);rintro e w' ⟨rfl,⟨nd,rfl⟩⟩;refine⟨_,rfl,?_⟩));go_ret;exact⟨qE,qK2 HB.out aE.out aP.out⟩
  ·rw[if_neg c5]at H;have c5b0:(aJ == aK)=false:=beq_eq_false_iff_ne.mpr c5;have c5b1:(aJ != aK)=true:=bne_iff_ne.mpr c5;obtain rfl:=Option.some.inj H;go_enter Try.func20,Try.ntmps20;go_wp2_with (first|((with_reducible refine gate_dst (N:=2) rfl ?_);refine box_event ?hg (N:=2) ?hd (cs:=#[.slice aM aI.length aN,.int .i64 aJ]) (t:=44) ?hr ?_;(case hd=>rfl);(case hg=>rfl);(case hr=>first|(go_simp;done)|(go_simp;rfl));intro aB hg cN hbox hb;have n0_:=A' (W' (qK0 HB.out) hb);have n1_:=A' (hbox);have n2_:=A' ((by rw[hg];exact(V' (qK0 HB.out)):w.heap.size≤aB));have n3_:=A' ((by rw[hg];exact(V' (qK0 HB.out)):w.heap.size≤aB));clear HB;have HB:=n0_;have aA:=n1_;have bA:=n2_;have aE:=n3_;clear n0_ n1_ n2_ n3_;clear hb hbox hg)|((with_reducible refine gate_dst (N:=3) rfl ?_);refine box_event ?hg (N:=3) ?hd (cs:=#[.slice aO aH.length aL,.int .i64 aK]) (t:=44) ?hr ?_;(case hd=>rfl);(case hg=>rfl);(case hr=>first|(go_simp;done)|(go_simp;rfl));intro aC hg bH hbox hb;have n0_:=A' (O' (g:=aB) (qB aA.out) hb);have n1_:=A' (W' (qK1 HB.out aE.out) hb);have n2_:=A' (hbox);have n3_:=A' ((by rw[hg];exact(V' (qK1 HB.out aE.out)):w.heap.size≤aC));have n4_:=A' ((by rw[hg];exact(V' (qK1 HB.out aE.out)):w.heap.size≤aC));have n5_:=A' ((by rw[hg];exact Nat.ne_of_lt (bL' (g:=aB) (qB aA.out)):aB≠aC));have n6_:=A' ((by rw[hg];exact Nat.ne_of_gt (bL' (g:=aB) (qB aA.out)):aC≠aB));clear aA;clear HB;have aA:=n0_;have HB:=n1_;have aD:=n2_;have bC:=n3_;have aP:=n4_;have aG:=n5_;have aF:=n6_;clear n0_ n1_ n2_ n3_ n4_ n5_ n6_;clear hb hbox hg;have cH:=aG.out;have cG:=aF.out;have bF:bH.cell? ⟨aB,0,none⟩=some (.slice aM aI.length aN):=(N' aA.out 0).trans rfl;have bZ:bH.cell? ⟨aB,1,none⟩=some (.int .i64 aJ):=(N' aA.out 1).trans rfl;have bY:=Y' aA.out 0;have bR:=Y' aA.out 1;have bS:bH.cell? ⟨aC,0,none⟩=some (.slice aO aH.length aL):=(N' aD.out 0).trans rfl;have bX:bH.cell? ⟨aC,1,none⟩=some (.int .i64 aK):=(N' aD.out 1).trans rfl;have bO:=Y' aD.out 0;have bK:=Y' aD.out 1)|((with_reducible refine gate_callee (f:=13) rfl ?_);refine goesL_ (some 9) rfl rfl Try.func13 (by kernel_rfl) rfl #[.slice aM aI.length aN,.slice aO aH.length aL] rfl (by(try simp only[List.map_toArray,List.map_cons,List.map_nil]);first|done|rfl|(simp only[List.length_drop,List.length_take];rfl)) ?_;(with_reducible refine(laws_eqInt64S.calls k _ _ aI _ _ aH true _ ?aS ?aR ?aQ ?aT A3.out).mono ?_);(case aS=>exact qT (X' aV.out HB.out));(case aR=>exact aX.out);(case aQ=>exact qT (X' aU.out HB.out));(case aT=>exact aW.out);rintro e w' ⟨rfl,⟨nd,rfl⟩⟩;refine⟨_,rfl,?_⟩));go_ret;exact⟨qE,qK2 HB.out aE.out aP.out⟩
 ·replace c4:=Bool.eq_false_iff.mpr c4;subst c4;have H1:(some false)=some r:=by rw[if_neg (show¬(false=true) by decide)]at H;exact H
  clear H;have H:=H1;clear H1;obtain rfl:=Option.some.inj H;go_enter Try.func20,Try.ntmps20;go_wp2_with (first|((with_reducible refine gate_dst (N:=2) rfl ?_);refine box_event ?hg (N:=2) ?hd (cs:=#[.slice aM aI.length aN,.int .i64 aJ]) (t:=44) ?hr ?_;(case hd=>rfl);(case hg=>rfl);(case hr=>first|(go_simp;done)|(go_simp;rfl));intro aB hg cO hbox hb;have n0_:=A' (W' (qK0 HB.out) hb);have n1_:=A' (hbox);have n2_:=A' ((by rw[hg];exact(V' (qK0 HB.out)):w.heap.size≤aB));have n3_:=A' ((by rw[hg];exact(V' (qK0 HB.out)):w.heap.size≤aB));clear HB;have HB:=n0_;have aA:=n1_;have bA:=n2_;have aE:=n3_;clear n0_ n1_ n2_ n3_;clear hb hbox hg)|((with_reducible refine gate_dst (N:=3) rfl ?_);refine box_event ?hg (N:=3) ?hd (cs:=#[.slice aO aH.length aL,.int .i64 aK]) (t:=44) ?hr ?_;(case hd=>rfl);(case hg=>rfl);(case hr=>first|(go_simp;done)|(go_simp;rfl));intro aC hg bU hbox hb;have n0_:=A' (O' (g:=aB) (qB aA.out) hb);have n1_:=A' (W' (qK1 HB.out aE.out) hb);have n2_:=A' (hbox);have n3_:=A' ((by rw[hg];exact(V' (qK1 HB.out aE.out)):w.heap.size≤aC));have n4_:=A' ((by rw[hg];exact(V' (qK1 HB.out aE.out)):w.heap.size≤aC));have n5_:=A' ((by rw[hg];exact Nat.ne_of_lt (bL' (g:=aB) (qB aA.out)):aB≠aC));have n6_:=A' ((by rw[hg];exact Nat.ne_of_gt (bL' (g:=aB) (qB aA.out)):aC≠aB));clear aA;clear HB;have aA:=n0_;have HB:=n1_;have aD:=n2_;have bC:=n3_;have aP:=n4_;have aG:=n5_;have aF:=n6_;clear n0_ n1_ n2_ n3_ n4_ n5_ n6_;clear hb hbox hg;have cF:=aG.out;have cI:=aF.out;have bQ:bU.cell? ⟨aB,0,none⟩=some (.slice aM aI.length aN):=(N' aA.out 0).trans rfl;have bV:bU.cell? ⟨aB,1,none⟩=some (.int .i64 aJ):=(N' aA.out 1).trans rfl;have bP:=Y' aA.out 0;have bL:=Y' aA.out 1;have bI:bU.cell? ⟨aC,0,none⟩=some (.slice aO aH.length aL):=(N' aD.out 0).trans rfl;have bG:bU.cell? ⟨aC,1,none⟩=some (.int .i64 aK):=(N' aD.out 1).trans rfl;have bM:=Y' aD.out 0;have bT:=Y' aD.out 1)|((with_reducible refine gate_callee (f:=13) rfl ?_);refine goesL_ (some 9) rfl rfl Try.func13 (by kernel_rfl) rfl #[.slice aM aI.length aN,.slice aO aH.length aL] rfl (by(try simp only[List.map_toArray,List.map_cons,List.map_nil]);first|done|rfl|(simp only[List.length_drop,List.length_take];rfl)) ?_;(with_reducible refine(laws_eqInt64S.calls k _ _ aI _ _ aH false _ ?aS ?aR ?aQ ?aT A3.out).mono ?_);(case aS=>exact qT (X' aV.out HB.out));(case aR=>exact aX.out);(case aQ=>exact qT (X' aU.out HB.out));(case aT=>exact aW.out);rintro e w' ⟨rfl,⟨nd,rfl⟩⟩;refine⟨_,rfl,?_⟩));go_ret;exact⟨qE,qK2 HB.out aE.out aP.out⟩
/-! ### laws_eqPull: function 65 -/
def laws_eqPull.f (aD:Int) (aA:Int) (aC:Int) (aB:Int):Option (Bool):=if aD=aC then(if aA=aB then(some true)else(some false))else(some false)
set_option maxHeartbeats 8000000 in
set_option maxRecDepth 100000 in
theorem laws_eqPull.calls (aH:Int) (aI:Int) (aK:Int) (aJ:Int) (r:Bool) (w:World) (h:laws_eqPull.f aH aI aK aJ=some r):
 Calls Try.prog 65 #[.agg #[.int .i64 aH,.int .i64 aI],.agg #[.int .i64 aK,.int .i64 aJ]] w fun e w'=>e= .returned (.bool r)∧Below w.heap.size w w':=by
 have bS:=Try.underlying76;have HB:=A' (Below.refl w.heap.size w);have H:(if aH=aK then(if aI=aJ then(some true)else(some false))else(some false))=some r:=h;clear h
 by_cases c3:aH=aK
 ·rw[if_pos c3]at H;have c3b0:(aH == aK)=true:=beq_iff_eq.mpr c3;have c3b1:(aH != aK)=false:=bne_eq_false_iff_eq.mpr c3;clear c3
  by_cases c4:aI=aJ
  ·rw[if_pos c4]at H;have c4b0:(aI == aJ)=true:=beq_iff_eq.mpr c4;have c4b1:(aI != aJ)=false:=bne_eq_false_iff_eq.mpr c4;clear c4;obtain rfl:=Option.some.inj H;go_enter Try.func65,Try.ntmps65;go_wp2_with (first|((with_reducible refine gate_dst (N:=2) rfl ?_);refine box_event ?hg (N:=2) ?hd (cs:=#[.int .i64 aH,.int .i64 aI]) (t:=76) ?hr ?_;(case hd=>rfl);(case hg=>rfl);(case hr=>first|(go_simp;done)|(go_simp;rfl));intro aA hg w5 hbox hb;have n0_:=A' (W' (qK0 HB.out) hb);have n1_:=A' (hbox);have n2_:=A' ((by rw[hg];exact(V' (qK0 HB.out)):w.heap.size≤aA));have n3_:=A' ((by rw[hg];exact(V' (qK0 HB.out)):w.heap.size≤aA));clear HB;have HB:=n0_;have aB:=n1_;have aN:=n2_;have aD:=n3_;clear n0_ n1_ n2_ n3_;clear hb hbox hg)|((with_reducible refine gate_dst (N:=3) rfl ?_);refine box_event ?hg (N:=3) ?hd (cs:=#[.int .i64 aK,.int .i64 aJ]) (t:=76) ?hr ?_;(case hd=>rfl);(case hg=>rfl);(case hr=>first|(go_simp;done)|(go_simp;rfl));intro aC hg w6 hbox hb;have n0_:=A' (O' (g:=aA) (qB aB.out) hb);have n1_:=A' (W' (qK1 HB.out aD.out) hb);have n2_:=A' (hbox);have n3_:=A' ((by rw[hg];exact(V' (qK1 HB.out aD.out)):w.heap.size≤aC));have n4_:=A' ((by rw[hg];exact(V' (qK1 HB.out aD.out)):w.heap.size≤aC));have n5_:=A' ((by rw[hg];exact Nat.ne_of_lt (bL' (g:=aA) (qB aB.out)):aA≠aC));have n6_:=A' ((by rw[hg];exact Nat.ne_of_gt (bL' (g:=aA) (qB aB.out)):aC≠aA));clear aB;clear HB;have aB:=n0_;have HB:=n1_;have aE:=n2_;have aM:=n3_;have aL:=n4_;have aG:=n5_;have aF:=n6_;clear n0_ n1_ n2_ n3_ n4_ n5_ n6_;clear hb hbox hg;have bU:=aG.out;have bT:=aF.out;have bL:w6.cell? ⟨aA,0,none⟩=some (.int .i64 aH):=(N' aB.out 0).trans rfl;have bH:w6.cell? ⟨aA,1,none⟩=some (.int .i64 aI):=(N' aB.out 1).trans rfl;have bJ:=Y' aB.out 0;have bG:=Y' aB.out 1;have bM:w6.cell? ⟨aC,0,none⟩=some (.int .i64 aK):=(N' aE.out 0).trans rfl;have bK:w6.cell? ⟨aC,1,none⟩=some (.int .i64 aJ):=(N' aE.out 1).trans rfl;have bN:=Y' aE.out 0;have bI:=Y' aE.out 1));go_ret;exact⟨qE,qK2 HB.out aD.out aL.out⟩
  ·rw[if_neg c4]at H;have c4b0:(aI == aJ)=false:=beq_eq_false_iff_ne.mpr c4;have c4b1:(aI != aJ)=true:=bne_iff_ne.mpr c4;obtain rfl:=Option.some.inj H;go_enter Try.func65,Try.ntmps65;go_wp2_with (first|((with_reducible refine gate_dst (N:=2) rfl ?_);refine box_event ?hg (N:=2) ?hd (cs:=#[.int .i64 aH,.int .i64 aI]) (t:=76) ?hr ?_;(case hd=>rfl);(case hg=>rfl);(case hr=>first|(go_simp;done)|(go_simp;rfl));intro aA hg bV hbox hb;have n0_:=A' (W' (qK0 HB.out) hb);have n1_:=A' (hbox);have n2_:=A' ((by rw[hg];exact(V' (qK0 HB.out)):w.heap.size≤aA));have n3_:=A' ((by rw[hg];exact(V' (qK0 HB.out)):w.heap.size≤aA));clear HB;have HB:=n0_;have aB:=n1_;have aN:=n2_;have aD:=n3_;clear n0_ n1_ n2_ n3_;clear hb hbox hg)|((with_reducible refine gate_dst (N:=3) rfl ?_);refine box_event ?hg (N:=3) ?hd (cs:=#[.int .i64 aK,.int .i64 aJ]) (t:=76) ?hr ?_;(case hd=>rfl);(case hg=>rfl);(case hr=>first|(go_simp;done)|(go_simp;rfl));intro aC hg aQ hbox hb;have n0_:=A' (O' (g:=aA) (qB aB.out) hb);have n1_:=A' (W' (qK1 HB.out aD.out) hb);have n2_:=A' (hbox);have n3_:=A' ((by rw[hg];exact(V' (qK1 HB.out aD.out)):w.heap.size≤aC));have n4_:=A' ((by rw[hg];exact(V' (qK1 HB.out aD.out)):w.heap.size≤aC));have n5_:=A' ((by rw[hg];exact Nat.ne_of_lt (bL' (g:=aA) (qB aB.out)):aA≠aC));have n6_:=A' ((by rw[hg];exact Nat.ne_of_gt (bL' (g:=aA) (qB aB.out)):aC≠aA));clear aB;clear HB;have aB:=n0_;have HB:=n1_;have aE:=n2_;have aM:=n3_;have aL:=n4_;have aG:=n5_;have aF:=n6_;clear n0_ n1_ n2_ n3_ n4_ n5_ n6_;clear hb hbox hg;have bR:=aG.out;have bQ:=aF.out;have aZ:aQ.cell? ⟨aA,0,none⟩=some (.int .i64 aH):=(N' aB.out 0).trans rfl;have bC:aQ.cell? ⟨aA,1,none⟩=some (.int .i64 aI):=(N' aB.out 1).trans rfl;have aV:=Y' aB.out 0;have aR:=Y' aB.out 1;have aP:aQ.cell? ⟨aC,0,none⟩=some (.int .i64 aK):=(N' aE.out 0).trans rfl;have bF:aQ.cell? ⟨aC,1,none⟩=some (.int .i64 aJ):=(N' aE.out 1).trans rfl;have bD:=Y' aE.out 0;have aY:=Y' aE.out 1));go_ret;exact⟨qE,qK2 HB.out aD.out aL.out⟩
 ·rw[if_neg c3]at H;have c3b0:(aH == aK)=false:=beq_eq_false_iff_ne.mpr c3;have c3b1:(aH != aK)=true:=bne_iff_ne.mpr c3;obtain rfl:=Option.some.inj H;go_enter Try.func65,Try.ntmps65;go_wp2_with (first|((with_reducible refine gate_dst (N:=2) rfl ?_);refine box_event ?hg (N:=2) ?hd (cs:=#[.int .i64 aH,.int .i64 aI]) (t:=76) ?hr ?_;(case hd=>rfl);(case hg=>rfl);(case hr=>first|(go_simp;done)|(go_simp;rfl));intro aA hg bW hbox hb;have n0_:=A' (W' (qK0 HB.out) hb);have n1_:=A' (hbox);have n2_:=A' ((by rw[hg];exact(V' (qK0 HB.out)):w.heap.size≤aA));have n3_:=A' ((by rw[hg];exact(V' (qK0 HB.out)):w.heap.size≤aA));clear HB;have HB:=n0_;have aB:=n1_;have aN:=n2_;have aD:=n3_;clear n0_ n1_ n2_ n3_;clear hb hbox hg)|((with_reducible refine gate_dst (N:=3) rfl ?_);refine box_event ?hg (N:=3) ?hd (cs:=#[.int .i64 aK,.int .i64 aJ]) (t:=76) ?hr ?_;(case hd=>rfl);(case hg=>rfl);(case hr=>first|(go_simp;done)|(go_simp;rfl));intro aC hg aT hbox hb;have n0_:=A' (O' (g:=aA) (qB aB.out) hb);have n1_:=A' (W' (qK1 HB.out aD.out) hb);have n2_:=A' (hbox);have n3_:=A' ((by rw[hg];exact(V' (qK1 HB.out aD.out)):w.heap.size≤aC));have n4_:=A' ((by rw[hg];exact(V' (qK1 HB.out aD.out)):w.heap.size≤aC));have n5_:=A' ((by rw[hg];exact Nat.ne_of_lt (bL' (g:=aA) (qB aB.out)):aA≠aC));have n6_:=A' ((by rw[hg];exact Nat.ne_of_gt (bL' (g:=aA) (qB aB.out)):aC≠aA));clear aB;clear HB;have aB:=n0_;have HB:=n1_;have aE:=n2_;have aM:=n3_;have aL:=n4_;have aG:=n5_;have aF:=n6_;clear n0_ n1_ n2_ n3_ n4_ n5_ n6_;clear hb hbox hg;have bO:=aG.out;have bP:=aF.out;have aO:aT.cell? ⟨aA,0,none⟩=some (.int .i64 aH):=(N' aB.out 0).trans rfl;have bA:aT.cell? ⟨aA,1,none⟩=some (.int .i64 aI):=(N' aB.out 1).trans rfl;have aW:=Y' aB.out 0;have bE:=Y' aB.out 1;have aX:aT.cell? ⟨aC,0,none⟩=some (.int .i64 aK):=(N' aE.out 0).trans rfl;have bB:aT.cell? ⟨aC,1,none⟩=some (.int .i64 aJ):=(N' aE.out 1).trans rfl;have aU:=Y' aE.out 0;have aS:=Y' aE.out 1));go_ret;exact⟨qE,qK2 HB.out aD.out aL.out⟩
/-! ### laws_eqPullS: function 21 -/
def laws_eqPullS.l0:Nat→List (S76)→List (S76)→Int→Option (Bool)
 |0,_,_,_=>none
 |k+1,x0,x1,x5=>if x5<(x0.length:Int)then(if 0≤x5 then(if x5<(x1.length:Int)then((laws_eqPull.f ((rd_T76 x0 x5).f0) ((rd_T76 x0 x5).f1) ((rd_T76 x1 x5).f0) ((rd_T76 x1 x5).f1)).bind fun aA=>(if aA=true then(laws_eqPullS.l0 k x0 x1 (wrap64 (x5+1)))else(some false)))else(none))else(none))else(some true)
def laws_eqPullS.f (k:Nat) (l0:List (S76)) (l1:List (S76)):Option (Bool):=if(l0.length:Int)=(l1.length:Int)then(laws_eqPullS.l0 k l0 l1 0)else(some false)
theorem laws_eqPullS.mono_l: ∀k,(∀y0 y1 y2,LeO (laws_eqPullS.l0 k y0 y1 y2) (laws_eqPullS.l0 (k+1) y0 y1 y2))
 |0=>fun _ _ _ r h=>by simp[laws_eqPullS.l0]at h
 |k+1=>by
  have aA:=laws_eqPullS.mono_l k
  ·intro y0 y1 y2
   unfold laws_eqPullS.l0
   repeat' first
   |(with_reducible exact aA _ _ _)
   |(with_reducible exact LeO.refl _)
   |(with_reducible exact LeO.none _)
   |(with_reducible refine LeO.ite ?_ ?_)
   |(with_reducible refine LeO.bind ?_ (fun _=>?_))
   |exact LeO.none _
   |refine LeO.ite ?_ ?_
   |refine LeO.bind ?_ (fun _=>?_)
theorem laws_eqPullS.mono: ∀a0 a1 k,LeO (laws_eqPullS.f k a0 a1) (laws_eqPullS.f (k+1) a0 a1):=by
 intro a0 a1 k
 have aA:=laws_eqPullS.mono_l k
 unfold laws_eqPullS.f
 repeat' first
  |(with_reducible exact aA _ _ _)
  |(with_reducible exact LeO.refl _)
  |(with_reducible exact LeO.none _)
  |(with_reducible refine LeO.ite ?_ ?_)
  |(with_reducible refine LeO.bind ?_ (fun _=>?_))
  |exact LeO.none _
  |refine LeO.ite ?_ ?_
  |refine LeO.bind ?_ (fun _=>?_)
def laws_eqPullS.T6:Bool×List (List Nat×List Nat):=(true,[([],[]),([],[]),([0,1],[0,1]),([2],[2]),([],[]),([],[]),([4,5],[4,5]),([6],[6]),([3,7],[3,7]),([8],[8])])
def laws_eqPullS.B6:List Nat:=[0,0,3,7,0,0,48,112,255,511]
theorem laws_eqPullS.tab6:rtab .any (opsOf Try.f21 6)=laws_eqPullS.T6:=by kernel_rfl
theorem laws_eqPullS.bits6:waitsOk laws_eqPullS.T6.2 laws_eqPullS.B6=true:=by kernel_rfl
set_option maxHeartbeats 8000000 in
set_option maxRecDepth 100000 in
theorem laws_eqPullS.calls (k:Nat) (A0:Option Addr) (c0:Nat) (l0:List (S76)) (A1:Option Addr) (c1:Nat) (l1:List (S76)) (r:Bool) (w:World) (aX:Kd.C k76 w A0 l0.length l0) (aY:l0.length≤c0) (aT:Kd.C k76 w A1 l1.length l1) (aS:l1.length≤c1) (h:laws_eqPullS.f k l0 l1=some r):
 Calls Try.prog 21 #[.slice A0 l0.length c0,.slice A1 l1.length c1] w fun e w'=>e= .returned (.bool r)∧Below w.heap.size w w':=by
 have bA:=Try.underlying76;have aZ:=A' aX;have bE:=A' aY;clear aX aY;have aU:=A' aT;have bD:=A' aS;clear aT aS;have HB:=A' (Below.refl w.heap.size w);have H:(if(l0.length:Int)=(l1.length:Int)then(laws_eqPullS.l0 k l0 l1 0)else(some false))=some r:=h;clear h
 by_cases c3:(l0.length:Int)=(l1.length:Int)
 ·rw[if_pos c3]at H;have c3b0:((l0.length:Int) == (l1.length:Int))=true:=beq_iff_eq.mpr c3;have c3b1:((l0.length:Int) != (l1.length:Int))=false:=bne_eq_false_iff_eq.mpr c3;have c3b2:(l0.length == l1.length)=true:=by first|simpa using c3|(simp at c3 ⊢;omega)
  clear c3;have H':=A' H;clear H;go_enter Try.func21,Try.ntmps21;go_wp2
  go_loopg [5] k (fun kq v5 w'=>∃(aA:Int),v5= .int .i64 aA∧Aside0 (laws_eqPullS.l0 kq l0 l1 aA=some r)∧Aside0 (kq≤k)∧Aside0 (Below w.heap.size w w'))
  case atStart=>exact⟨(0),qS,H',⟨Nat.le_refl _⟩,⟨qK0 HB.out⟩⟩
  case round=>
   clear H';try clear c1
   try clear c2
   try clear p2
   try clear c3
   try clear c3b0
   try clear c3b1
   try clear c3b2
   obtain⟨aA,rfl,HA,aV,HB⟩:=hrel
   cases gk with
   |zero=>exact absurd HA.out (by simp[laws_eqPullS.l0])
   |succ k1=>
    have H:=HA.out;clear HA;simp only[laws_eqPullS.l0]at H
    by_cases c4:aA<(l0.length:Int)
    ·rw[if_pos c4]at H;have c4b0:decide (aA<(l0.length:Int))=true:=dT' c4;clear c4
     by_cases c5:0≤aA
     ·rw[if_pos c5]at H;have c5b0:decide (0≤aA)=true:=dT' c5;clear c5
      by_cases c6:aA<(l1.length:Int)
      ·rw[if_pos c6]at H;have c6b0:decide (aA<(l1.length:Int))=true:=dT' c6;clear c6;replace H:=Option.bind_eq_some_iff.mp H;obtain⟨aR,aW,H⟩:=H;replace H:(if aR=true then(laws_eqPullS.l0 k1 l0 l1 (wrap64 (aA+1)))else(some false))=some r:=H;have A7:=A' aW;clear aW
       by_cases c8:aR=true
       ·subst c8;have H1:(laws_eqPullS.l0 k1 l0 l1 (wrap64 (aA+1)))=some r:=by rw[if_pos rfl]at H;exact H
        clear H;have H:=H1;clear H1;have H':=A' H;clear H;try go_wp2
        replace HB:=A' (J' HB.out);have aL:0≤(aA:Int):=oD' qA;have aN:aA<(l0.length:Int):=oD' qA;obtain⟨aJ,aQ,aB,aC⟩:=at_T76 aZ.out aA aL aN;have aG:=aC;have aH:=aB
        cases aQ
        try replace aB:=qC HB.out aB
        try replace aC:=qC HB.out aC
        replace aL:=eq_true aL;replace aN:=eq_true aN;have aO:0≤(aA:Int):=oD' qA;have aM:aA<(l1.length:Int):=oD' qA;obtain⟨aK,aP,aE,aD⟩:=at_T76 aU.out aA aO aM;have aF:=aD;have aI:=aE
        cases aP
        try replace aE:=qC HB.out aE
        try replace aD:=qC HB.out aD
        replace aO:=eq_true aO;replace aM:=eq_true aM;refine start_ (n:=10) (S:=fun w'=>w'.cell? (aJ.add ((aA).toNat*2))=some (.int .i64 ((rd_T76 l0 aA).f0))∧w'.cell? ⟨(aJ.add ((aA).toNat*2)).block,(aJ.add ((aA).toNat*2)).off+1,none⟩=some (.int .i64 ((rd_T76 l0 aA).f1))∧w'.cell? (aK.add ((aA).toNat*2))=some (.int .i64 ((rd_T76 l1 aA).f0))∧w'.cell? ⟨(aK.add ((aA).toNat*2)).block,(aK.add ((aA).toNat*2)).off+1,none⟩=some (.int .i64 ((rd_T76 l1 aA).f1))) (ds:=[]) #[n',n',n',n',n',n',n',n',n',n'] (by kernel_rfl) rfl rfl ⟨(qC HB.out aH:),(qC HB.out aG:),(qC HB.out aI:),(qC HB.out aF:)⟩ (fun hHeld=>?_);refine with_tabW laws_eqPullS.tab6 laws_eqPullS.bits6 (fun HT_ HW_=>?_)
        generalize wr.drew=w9 at HB aB aC aE aD hHeld ⊢
        refine pure_ (i:=0) (N:=some 17) (v:=?_) (a':=?_) #[y',n',n',n',n',n',n',n',n',n'] rfl rfl (any_of HT_.out (by kernel_rfl)) (fun _ _ _ h=>h) (Or.inl ⟨by rfl,?_⟩) ?_ ?_;rotate_left
        ·exact qI
        rotate_left
        ·exact qP
        refine pure_ (i:=1) (N:=some 18) (v:=?_) (a':=?_) #[y',y',n',n',n',n',n',n',n',n'] rfl rfl (any_of HT_.out (by kernel_rfl)) (fun _ _ _ h=>h) (Or.inl ⟨by rfl,?_⟩) ?_ ?_;rotate_left
        ·exact qI
        rotate_left
        ·exact qP
        refine pure_ (i:=2) (N:=some 19) (v:=?_) (a':=?_) #[y',y',y',n',n',n',n',n',n',n'] rfl rfl (any_of HT_.out (by kernel_rfl)) (fun _ _ _ h=>h) (Or.inl ⟨by rfl,?_⟩) ?_ ?_;rotate_left
        ·exact qI
        rotate_left
        ·exact qP
        refine pure_ (i:=4) (N:=some 21) (v:=?_) (a':=?_) #[y',y',y',n',y',n',n',n',n',n'] rfl rfl (any_of HT_.out (by kernel_rfl)) (fun _ _ _ h=>h) (Or.inl ⟨by rfl,?_⟩) ?_ ?_;rotate_left
        ·exact qI
        rotate_left
        ·exact qP
        refine pure_ (i:=5) (N:=some 22) (v:=?_) (a':=?_) #[y',y',y',n',y',y',n',n',n',n'] rfl rfl (any_of HT_.out (by kernel_rfl)) (fun _ _ _ h=>h) (Or.inl ⟨by rfl,?_⟩) ?_ ?_;rotate_left
        ·exact qI
        rotate_left
        ·exact qP
        refine pure_ (i:=6) (N:=some 23) (v:=?_) (a':=?_) #[y',y',y',n',y',y',y',n',n',n'] rfl rfl (any_of HT_.out (by kernel_rfl)) (fun _ _ _ h=>h) (Or.inl ⟨by rfl,?_⟩) ?_ ?_;rotate_left
        ·exact qI
        rotate_left
        ·exact qP
        refine take_ (i:=3) (N:=some 20) (v:=?_) (a':=?_) #[y',y',y',y',y',y',y',n',n',n'] rfl rfl (take_ofW HT_.out HW_.out (by kernel_rfl)) (fun _ _ _ h=>h) (Or.inl ⟨by rfl,?_⟩) hHeld ?_ ?_;rotate_left
        ·rintro w' ⟨s0,s1,s2,s3⟩;go_simp;with_reducible rfl
        rotate_left
        ·exact qP
        refine take_ (i:=7) (N:=some 24) (v:=?_) (a':=?_) #[y',y',y',y',y',y',y',y',n',n'] rfl rfl (take_ofW HT_.out HW_.out (by kernel_rfl)) (fun _ _ _ h=>h) (Or.inl ⟨by rfl,?_⟩) hHeld ?_ ?_;rotate_left
        ·rintro w' ⟨s0,s1,s2,s3⟩;go_simp;with_reducible rfl
        rotate_left
        ·exact qP
        refine one_ (i:=8) (N:=some 25) #[y',y',y',y',y',y',y',y',y',n'] rfl rfl (one_of HT_.out (by kernel_rfl)) (by decide) (fun K hK=>?_);refine goes_ Try.func65 (by kernel_rfl) rfl #[.agg #[.int .i64 ((rd_T76 l0 aA).f0),.int .i64 ((rd_T76 l0 aA).f1)],.agg #[.int .i64 ((rd_T76 l1 aA).f0),.int .i64 ((rd_T76 l1 aA).f1)]] (by rfl) rfl rfl (by(try simp only[List.map_toArray,List.map_cons,List.map_nil]);first|done|rfl|(simp only[List.length_drop,List.length_take];rfl)) ?_
        with_reducible refine(laws_eqPull.calls ((rd_T76 l0 aA).f0) ((rd_T76 l0 aA).f1) ((rd_T76 l1 aA).f0) ((rd_T76 l1 aA).f1) true _ A7.out).mono ?_
        rintro e bC ⟨rfl,hb⟩;refine⟨_,rfl,?_⟩;replace HB:=A' (W' (qK0 HB.out) hb);(try clear hb);(try clear hb2);(try clear hk);(try clear hi);refine hK.out _ _ ⟨(qC HB.out aH:),(qC HB.out aG:),(qC HB.out aI:),(qC HB.out aF:)⟩ (fun hHeld=>?_);clear hK K;refine norm_ (a':=?_) ?_ ?_;rotate_left
        ·show Act.put _ (some 25) _=_
         exact qP
        refine pure_ (i:=9) (N:=some 26) (v:=?_) (a':=?_) #[y',y',y',y',y',y',y',y',y',y'] rfl rfl (any_of HT_.out (by kernel_rfl)) (fun _ _ _ h=>h) (Or.inl ⟨by rfl,?_⟩) ?_ ?_;rotate_left
        ·exact qI
        rotate_left
        ·exact qP
        refine done_ (done_of HT_.out (by kernel_rfl)) ?_;try go_wp2
        go_roundg k1
        case measure=>have:=aV.out;omega
        case rel=>exact⟨(wrap64 (aA+1)),qS,H',⟨by have:=aV.out;omega⟩,⟨qK0 HB.out⟩⟩
       ·replace c8:=Bool.eq_false_iff.mpr c8;subst c8;have H1:(some false)=some r:=by rw[if_neg (show¬(false=true) by decide)]at H;exact H
        clear H;have H:=H1;clear H1;obtain rfl:=Option.some.inj H;try go_wp2
        replace HB:=A' (J' HB.out);have aL:0≤(aA:Int):=oD' qA;have aN:aA<(l0.length:Int):=oD' qA;obtain⟨aJ,aQ,aB,aC⟩:=at_T76 aZ.out aA aL aN;have aG:=aC;have aH:=aB
        cases aQ
        try replace aB:=qC HB.out aB
        try replace aC:=qC HB.out aC
        replace aL:=eq_true aL;replace aN:=eq_true aN;have aO:0≤(aA:Int):=oD' qA;have aM:aA<(l1.length:Int):=oD' qA;obtain⟨aK,aP,aE,aD⟩:=at_T76 aU.out aA aO aM;have aF:=aD;have aI:=aE
        cases aP
        try replace aE:=qC HB.out aE
        try replace aD:=qC HB.out aD
        replace aO:=eq_true aO;replace aM:=eq_true aM;refine start_ (n:=10) (S:=fun w'=>w'.cell? (aJ.add ((aA).toNat*2))=some (.int .i64 ((rd_T76 l0 aA).f0))∧w'.cell? ⟨(aJ.add ((aA).toNat*2)).block,(aJ.add ((aA).toNat*2)).off+1,none⟩=some (.int .i64 ((rd_T76 l0 aA).f1))∧w'.cell? (aK.add ((aA).toNat*2))=some (.int .i64 ((rd_T76 l1 aA).f0))∧w'.cell? ⟨(aK.add ((aA).toNat*2)).block,(aK.add ((aA).toNat*2)).off+1,none⟩=some (.int .i64 ((rd_T76 l1 aA).f1))) (ds:=[]) #[n',n',n',n',n',n',n',n',n',n'] (by kernel_rfl) rfl rfl ⟨(qC HB.out aH:),(qC HB.out aG:),(qC HB.out aI:),(qC HB.out aF:)⟩ (fun hHeld=>?_);refine with_tabW laws_eqPullS.tab6 laws_eqPullS.bits6 (fun HT_ HW_=>?_)
        generalize wr.drew=w11 at HB aB aC aE aD hHeld ⊢
        refine pure_ (i:=0) (N:=some 17) (v:=?_) (a':=?_) #[y',n',n',n',n',n',n',n',n',n'] rfl rfl (any_of HT_.out (by kernel_rfl)) (fun _ _ _ h=>h) (Or.inl ⟨by rfl,?_⟩) ?_ ?_;rotate_left
        ·exact qI
        rotate_left
        ·exact qP
        refine pure_ (i:=1) (N:=some 18) (v:=?_) (a':=?_) #[y',y',n',n',n',n',n',n',n',n'] rfl rfl (any_of HT_.out (by kernel_rfl)) (fun _ _ _ h=>h) (Or.inl ⟨by rfl,?_⟩) ?_ ?_;rotate_left
        ·exact qI
        rotate_left
        ·exact qP
        refine pure_ (i:=2) (N:=some 19) (v:=?_) (a':=?_) #[y',y',y',n',n',n',n',n',n',n'] rfl rfl (any_of HT_.out (by kernel_rfl)) (fun _ _ _ h=>h) (Or.inl ⟨by rfl,?_⟩) ?_ ?_;rotate_left
        ·exact qI
        rotate_left
        ·exact qP
        refine pure_ (i:=4) (N:=some 21) (v:=?_) (a':=?_) #[y',y',y',n',y',n',n',n',n',n'] rfl rfl (any_of HT_.out (by kernel_rfl)) (fun _ _ _ h=>h) (Or.inl ⟨by rfl,?_⟩) ?_ ?_;rotate_left
        ·exact qI
        rotate_left
        ·exact qP
        refine pure_ (i:=5) (N:=some 22) (v:=?_) (a':=?_) #[y',y',y',n',y',y',n',n',n',n'] rfl rfl (any_of HT_.out (by kernel_rfl)) (fun _ _ _ h=>h) (Or.inl ⟨by rfl,?_⟩) ?_ ?_;rotate_left
        ·exact qI
        rotate_left
        ·exact qP
        refine pure_ (i:=6) (N:=some 23) (v:=?_) (a':=?_) #[y',y',y',n',y',y',y',n',n',n'] rfl rfl (any_of HT_.out (by kernel_rfl)) (fun _ _ _ h=>h) (Or.inl ⟨by rfl,?_⟩) ?_ ?_;rotate_left
        ·exact qI
        rotate_left
        ·exact qP
        refine take_ (i:=3) (N:=some 20) (v:=?_) (a':=?_) #[y',y',y',y',y',y',y',n',n',n'] rfl rfl (take_ofW HT_.out HW_.out (by kernel_rfl)) (fun _ _ _ h=>h) (Or.inl ⟨by rfl,?_⟩) hHeld ?_ ?_;rotate_left
        ·rintro w' ⟨s0,s1,s2,s3⟩;go_simp;with_reducible rfl
        rotate_left
        ·exact qP
        refine take_ (i:=7) (N:=some 24) (v:=?_) (a':=?_) #[y',y',y',y',y',y',y',y',n',n'] rfl rfl (take_ofW HT_.out HW_.out (by kernel_rfl)) (fun _ _ _ h=>h) (Or.inl ⟨by rfl,?_⟩) hHeld ?_ ?_;rotate_left
        ·rintro w' ⟨s0,s1,s2,s3⟩;go_simp;with_reducible rfl
        rotate_left
        ·exact qP
        refine one_ (i:=8) (N:=some 25) #[y',y',y',y',y',y',y',y',y',n'] rfl rfl (one_of HT_.out (by kernel_rfl)) (by decide) (fun K hK=>?_);refine goes_ Try.func65 (by kernel_rfl) rfl #[.agg #[.int .i64 ((rd_T76 l0 aA).f0),.int .i64 ((rd_T76 l0 aA).f1)],.agg #[.int .i64 ((rd_T76 l1 aA).f0),.int .i64 ((rd_T76 l1 aA).f1)]] (by rfl) rfl rfl (by(try simp only[List.map_toArray,List.map_cons,List.map_nil]);first|done|rfl|(simp only[List.length_drop,List.length_take];rfl)) ?_
        with_reducible refine(laws_eqPull.calls ((rd_T76 l0 aA).f0) ((rd_T76 l0 aA).f1) ((rd_T76 l1 aA).f0) ((rd_T76 l1 aA).f1) false _ A7.out).mono ?_
        rintro e bB ⟨rfl,hb⟩;refine⟨_,rfl,?_⟩;replace HB:=A' (W' (qK0 HB.out) hb);(try clear hb);(try clear hb2);(try clear hk);(try clear hi);refine hK.out _ _ ⟨(qC HB.out aH:),(qC HB.out aG:),(qC HB.out aI:),(qC HB.out aF:)⟩ (fun hHeld=>?_);clear hK K;refine norm_ (a':=?_) ?_ ?_;rotate_left
        ·show Act.put _ (some 25) _=_
         exact qP
        refine pure_ (i:=9) (N:=some 26) (v:=?_) (a':=?_) #[y',y',y',y',y',y',y',y',y',y'] rfl rfl (any_of HT_.out (by kernel_rfl)) (fun _ _ _ h=>h) (Or.inl ⟨by rfl,?_⟩) ?_ ?_;rotate_left
        ·exact qI
        rotate_left
        ·exact qP
        refine done_ (done_of HT_.out (by kernel_rfl)) ?_;try go_wp2
        go_ret;exact⟨qE,qK0 HB.out⟩
      ·rw[if_neg c6]at H;exact absurd H (by simp)
     ·rw[if_neg c5]at H;exact absurd H (by simp)
    ·rw[if_neg c4]at H;have c4b0:decide (aA<(l0.length:Int))=false:=dF' c4;clear c4;obtain rfl:=Option.some.inj H;go_wp2;go_ret;exact⟨qE,qK0 HB.out⟩
 ·rw[if_neg c3]at H;have c3b0:((l0.length:Int) == (l1.length:Int))=false:=beq_eq_false_iff_ne.mpr c3;have c3b1:((l0.length:Int) != (l1.length:Int))=true:=bne_iff_ne.mpr c3;have c3b2:(l0.length == l1.length)=false:=by first|simpa using c3|(simp at c3 ⊢;omega)
  obtain rfl:=Option.some.inj H;go_enter Try.func21,Try.ntmps21;go_wp2;go_ret;exact⟨qE,qK0 HB.out⟩
end Go.Proofs.Ytebbdadpgapobaa.HEl
