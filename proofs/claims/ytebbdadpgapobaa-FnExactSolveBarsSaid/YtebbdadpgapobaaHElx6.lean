-- Written by a program for this claim (the functions that the statement reaches, and that the program's code comes to them).
import Derived.Test.YtebbdadpgapobaaHElx0
import Derived.Test.YtebbdadpgapobaaHElx2
import Derived.Test.YtebbdadpgapobaaHElx3
import Derived.Test.YtebbdadpgapobaaHElx5
namespace Go.Proofs.Ytebbdadpgapobaa.HEl
open Go.RowKit Go.Proofs.YtebbdadpgapobaaW.PrintWords Go.Proofs.YtebbdadpgapobaaW.PrintLast Go.Proofs.YtebbdadpgapobaaW.PrintMore
attribute [local go_sem] max2_int min2_int max_two min_two max_three min_three max_four min_four
set_option linter.unusedVariables false
set_option linter.unusedSimpArgs false
/-! ### impl_barRows: function 94 (by hand) -/
def impl_barRows.f:Option Bool:=none
section
open Go.Proofs.Ytebbdadpgapobaa.Lib
theorem fkn_l0 (ks:List S90) (hk:ks.length≤8): ∀(d i:Nat),i+d=ks.length→
 Ev (fun k=>impl_freeKnots.l0 k ((frU ks i).map fun(v:Nat)=>(v:Int)) ks (ks.length:Int) (i:Int)) ((frI ks).map fun(v:Nat)=>(v:Int))
 |0,i,hd=>by
  refine ev_succ ?_;simp only[impl_freeKnots.l0]
  refine ev_neg (by omega) (ev_some ?_)
  unfold frI;rw[show i=ks.length by omega]
 |d+1,i,hd=>by
  have hi:i<ks.length:=by omega
  have hl:=frU_le ks i
  refine ev_succ ?_;simp only[impl_freeKnots.l0]
  rw[w64s (i:=i) (by omega)]
  have ih:=fkn_l0 ks hk d (i+1) (by omega)
  rw[frU_succ]at ih
  refine ev_pos (by omega) (ev_pos (by omega) (ev_pos (by omega) (ev_if (fun h=>?_) (fun h=>ev_pos (by simp;omega) ?_))))
  ·rw[if_pos h,List.append_nil]at ih;exact ih
  ·rw[if_neg h,List.map_append]at ih;exact ih
theorem fkn (ks:List S90) (bs:List S104) (hk:ks.length≤8): ∃k,impl_freeKnots.f k ks bs=some ((frI ks).map fun(v:Nat)=>(v:Int)):=by
 obtain⟨K,h⟩:=fkn_l0 ks hk ks.length 0 (by omega)
 exact⟨K,h K (Nat.le_refl _)⟩
theorem impl_gcd_l0: ∀(n:Nat) (a b:Int),b.natAbs<n→ ∃r:Int,Ev (fun k=>impl_gcd.l0 k a b) r∧r.natAbs=Nat.gcd a.natAbs b.natAbs∧(0≤a→0≤b→0≤r)
 |0,a,b,h=>absurd h (Nat.not_lt_zero _)
 |n+1,a,b,h=>by
  by_cases hb:b=0
  ·subst hb
   refine⟨a,ev_succ ?_,by simp,fun h0 _=>h0⟩
   simp only[impl_gcd.l0];exact ev_pos (by trivial) (Ev.now _)
  ·have hlt:(Int.tmod a b).natAbs<b.natAbs:=by rw[Int.natAbs_tmod];exact Nat.mod_lt _ (by omega)
   obtain⟨r,e,hg,hp⟩:=impl_gcd_l0 n b (Int.tmod a b) (by omega)
   refine⟨r,ev_succ ?_,?_,fun h0 h1=>hp h1 (Int.tmod_nonneg _ h0)⟩
   ·simp only[impl_gcd.l0];exact ev_neg hb e
   ·rw[hg,Int.natAbs_tmod,Nat.gcd_comm a.natAbs,Nat.gcd_rec b.natAbs a.natAbs,Nat.gcd_comm]
theorem impl_gcd_l0' (a b:Int) (h0:0≤a) (h1:0≤b):Ev (fun k=>impl_gcd.l0 k a b) (Int.gcd a b:Int):=by
 obtain⟨r,e,hg,hp⟩:=impl_gcd_l0 (b.natAbs+1) a b (by omega)
 have:r=(Int.gcd a b:Int):=by have:=hp h0 h1;unfold Int.gcd;omega
 rw[← this];exact e
theorem gcd_ev (a b:Int) (ha: -9223372036854775807≤a) (ha':a≤9223372036854775807) (hb:0≤b):Ev (fun k=>impl_gcd.f k a b) (Int.gcd a b:Int):=by
 simp only[impl_gcd.f]
 refine ev_if (fun h=>?_) (fun h=>?_)
 ·rw[w64 (by omega) (by omega)]
  refine ev_succ ?_;simp only[impl_gcd.j0]
  have:=impl_gcd_l0' (-a) b (by omega) hb
  rw[Int.neg_gcd]at this;exact this
 ·refine ev_succ ?_;simp only[impl_gcd.j0]
  exact impl_gcd_l0' a b (by omega) hb
theorem fraction_ev (n d:Int) (hn: -9223372036854775807≤n) (hn':n≤9223372036854775807) (hd: -9223372036854775807≤d) (hd':d≤9223372036854775807) (h0:d≠0):
 Ev (fun k=>impl_fraction.f k n d) (fr ((n:Rat) / (d:Rat))):=by
 have pos: ∀m e:Int,-9223372036854775807≤m→m≤9223372036854775807→0<e→e≤9223372036854775807→
  Ev (fun k=>(impl_gcd.f k m e).bind fun t=>if t=0 then none else some (wrap64 (Int.tdiv m t),wrap64 (Int.tdiv e t))) (fr ((m:Rat) / (e:Rat))):=by
  intro m e hm hm' he he'
  refine Ev.bind (gcd_ev m e hm hm' (by omega)) (ev_neg (by have:=gcd_pos (n:=m) (d:=e) (by omega);omega) (ev_some ?_))
  have f:=fr_make (n:=m) he
  have b1:=num_le (B:=9223372036854775807) he (r:=(m:Rat) / (e:Rat)) rfl (by omega) (by omega)
  have b2:=den_le he (r:=(m:Rat) / (e:Rat)) rfl
  have b3:=den_pos ((m:Rat) / (e:Rat))
  have f1:=congrArg Prod.fst f
  have f2:=congrArg Prod.snd f
  simp only[fr]at f1 f2
  rw[f1,f2,w64 (by omega) (by omega),w64 (by omega) (by omega)];rfl
 simp only[impl_fraction.f]
 refine ev_if (fun h=>?_) (fun h=>?_)
 ·rw[w64 (x:=-n) (by omega) (by omega),w64 (x:=-d) (by omega) (by omega),← fr_make_neg h]
  exact pos (-n) (-d) (by omega) (by omega) (by omega) (by omega)
 ·exact pos n d hn hn' (by omega) hd'
theorem frac1 (n:Int) (h:n.natAbs≤1000000000): ∃k,impl_fraction.f k n 1=some (n,1):=by
 obtain⟨K,h1⟩:=fraction_ev n 1 (by omega) (by omega) (by omega) (by omega) (by omega)
 have e:=h1 K (Nat.le_refl _)
 rw[fr_of_coprime (by omega) (by simp)]at e
 exact⟨K,e⟩
theorem pullE {ks:List S90} {bs:List S104} {ld:List S76} {bars:List Int} (hok:TOk ks bs ld bars) {x v:Int} (h0:0≤x) (h1:x<(bs.length:Int)) {fb:S104} (hfb:fb=rd_T104 bs x):
 impl_pullOf.f ks bs fb.f0 fb.f1 fb.f2 v=some (colE ks 0 v fb,colE ks 1 v fb)∧(colE ks 0 v fb).natAbs≤12∧(colE ks 1 v fb).natAbs≤12:=by
 have hb:=hok.bb fb (by rw[hfb];exact rdB_mem h0 h1)
 have hA:=hok.knots _ (rdK_mem (ks:=ks) (a:=fb.f0) (by omega) (by omega))
 have hB:=hok.knots _ (rdK_mem (ks:=ks) (a:=fb.f1) (by omega) (by omega))
 unfold impl_pullOf.f colE
 rw[if_pos (by omega),if_pos (by omega),if_pos (by omega),if_pos (by omega),if_pos (show(0:Nat)=0 from rfl),if_neg (show¬(1:Nat)=0 by decide)]
 generalize rd_T90 ks fb.f0=A at*
 generalize rd_T90 ks fb.f1=B at*
 rw[w64 (x:=B.f0 - A.f0) (by omega) (by omega),w64 (x:=B.f1 - A.f1) (by omega) (by omega),w64 (x:=-(B.f0 - A.f0)) (by omega) (by omega),w64 (x:=-(B.f1 - A.f1)) (by omega) (by omega)]
 by_cases e0:v=fb.f0
 ·have e1: ¬v=fb.f1:=by omega
  rw[if_pos e0,if_neg e1,if_neg e1,if_pos e0,if_pos e0]
  exact⟨rfl,by omega,by omega⟩
 ·by_cases e1:v=fb.f1
  ·rw[if_neg e0,if_pos e1,if_pos e1,if_pos e1]
   exact⟨rfl,by omega,by omega⟩
  ·rw[if_neg e0,if_neg e1,if_neg e1,if_neg e1,if_neg e0,if_neg e0]
   exact⟨rfl,by decide,by decide⟩
end
section
open Go.Proofs.Ytebbdadpgapobaa.Red Go.Proofs.Ytebbdadpgapobaa.Elim Go.Proofs.Ytebbdadpgapobaa.Fra
def BarPost (W:World) (ks:List S90) (bs:List S104) (ld:List S76) (bars:List Int) (e:Ending) (w':World):Prop:=
 ∃(g cap:Nat) (A:Option Addr) (b cc:Nat→Nat),e= .returned (.slice A (2*(frI ks).length) cap)∧(0<2*(frI ks).length→A=some ⟨g,0,none⟩)∧
  TB 140 142 W.heap.size g (2*(frI ks).length) (bars.length+1) (2*(bars.length+1)) b cc (FT (Qr (tblM ks bs ld bars) 1)) w'∧Below W.heap.size W w'∧2*(frI ks).length≤cap
theorem infoFr:(Try.prog.info? 142).map (fun i=>(i.zero,i.size,i.bytes))=some (some (.agg #[.int .i64 0,.int .i64 0]),2,16):=by kernel_rfl
theorem infoFS:(Try.prog.info? 140).map (fun i=>(i.zero,i.size,i.bytes))=some (some (.slice none 0 0),1,24):=by kernel_rfl
structure BI (w0:World) (gp:Nat) (fc:Array Value) (aA:Value) (fl:List Int) (W:World):Prop where
 gpb:W.heap[gp]? =some (.cells fc 33 (0,0))
 fl:Kd.R (Kd.int .i64) 2 W w0.heap.size (fun _=>True) aA fl
namespace BI
section
variable {w0 W W1:World} {gp:Nat} {fc:Array Value} {aA:Value} {fl:List Int}
protected theorem below (h:BI w0 gp fc aA fl W) (hb:Below W.heap.size W W1):BI w0 gp fc aA fl W1:=⟨blk_below h.gpb hb,Kd.R_below h.fl hb⟩
protected theorem grown (h:BI w0 gp fc aA fl W) {sz e:Nat} {vx:Value} {xs:List (List Value)} {ok:Nat→Prop} (hx:Kd.R (Kd.raw sz) e W w0.heap.size ok vx xs) (h1:e≠33) (h2:e≠2) (hg:W.grownBy W1 vx.ownBlock):BI w0 gp fc aA fl W1:=
 ⟨blk_grown h.gpb hg (fun z=>Kd.R_ne hx h.gpb h1 z),Kd.R_over' h.fl (Kd.R_typed hx) (by simp[Kd.int,Kd.scalar];exact fun z=>h2 z.symm) hg⟩
end
end BI
def frv (n:Int):List Value:=[.int .i64 n,.int .i64 1]
theorem Qr_one (M:Nat→Nat→Int) (i j:Nat):(Qr M 1 i j).num=M i j∧((Qr M 1 i j).den:Int)=1:=by
 have h:=Go.Proofs.Ytebbdadpgapobaa.Lib.fr_of_coprime (n:=M i j) (d:=1) (by omega) (by simp)
 unfold Go.Proofs.Ytebbdadpgapobaa.Lib.fr at h
 injection h with h1 h2
 exact⟨h1,h2⟩
theorem rowv_at (f:Nat→List Value) (m:Nat) (z:List Value) (j:Nat) (h:j<m+1):((List.range m).map f ++ [z])[j]? =some (if j<m then f j else z):=by
 by_cases g:j<m
 ·rw[List.getElem?_append_left (by simpa using g),if_pos g];simp[g]
 ·rw[List.getElem?_append_right (by simp;omega),if_neg g,show j=m by omega];simp
theorem tblM_at {ks:List S90} {bs:List S104} {ld:List S76} {bars:List Int} {v kv:Nat} (h:kv=(frI ks).getD v 0) (j:Nat):
 tblM ks bs ld bars (2*v) j=(if j<bars.length then colE ks 0 (kv:Int) (rd_T104 bs (rd bars (j:Int)))else -(rd_T76 ld (kv:Int)).f0)∧
 tblM ks bs ld bars (2*v+1) j=(if j<bars.length then colE ks 1 (kv:Int) (rd_T104 bs (rd bars (j:Int)))else -(rd_T76 ld (kv:Int)).f1):=by
 unfold tblM
 rw[show 2*v % 2=0 by omega,show 2*v / 2=v by omega,show(2*v+1) % 2=1 by omega,show(2*v+1) / 2=v by omega,← h,if_pos rfl,if_neg (show¬(1:Nat)=0 by decide)]
 exact⟨rfl,rfl⟩
set_option maxHeartbeats 4000000 in
set_option maxRecDepth 100000 in
theorem bar_calls (A0:Option Addr) (c0:Nat) (ks:List S90) (A1:Option Addr) (c1:Nat) (bs:List S104) (Al:Option Addr) (cl:Nat) (ld:List S76) (Ab:Option Addr) (cb:Nat) (bars:List Int) (W:World)
 (hok:TOk ks bs ld bars) (bF:Kd.C k90 W A0 ks.length ks) (bE:ks.length≤c0) (aY:Kd.C k104 W A1 bs.length bs) (bA:bs.length≤c1) (hrl:Kd.C k76 W Al ld.length ld) (hrb:Kd.C (Kd.int .i64) W Ab bars.length bars):
 Calls Try.prog 94 #[.agg #[.slice A0 ks.length c0,.slice A1 bs.length c1],.slice Al ld.length cl,.slice Ab bars.length cb] W (BarPost W ks bs ld bars):=by
 have H0:=Aside0.mk hok
 have HC:=Aside0.mk (And.intro bE bA)
 have HR:=Aside0.mk (And.intro bF (And.intro aY (And.intro hrl hrb)))
 obtain⟨mn,hmn⟩: ∃mn,mn=bars.length:=⟨_,rfl⟩
 obtain⟨nk,hnk⟩: ∃nk,nk=ks.length:=⟨_,rfl⟩
 obtain⟨nb,hnb⟩: ∃nb,nb=bs.length:=⟨_,rfl⟩
 obtain⟨nl,hnl⟩: ∃nl,nl=ld.length:=⟨_,rfl⟩
 obtain⟨ml,hml⟩: ∃ml,ml=mn+1:=⟨_,rfl⟩
 have HN:=Aside0.mk (And.intro hmn (And.intro hnk (And.intro hnb (And.intro hnl hml))))
 obtain⟨kf,hkf⟩:=fkn ks bs hok.k8
 obtain⟨fl,hfl⟩: ∃fl,fl=(frI ks).map fun(v:Nat)=>(v:Int):=⟨_,rfl⟩
 rw[← hfl]at hkf
 obtain⟨nf,hnf⟩: ∃nf,nf=(frI ks).length:=⟨_,rfl⟩
 have HF:=Aside0.mk (show impl_freeKnots.f kf ks bs=some fl∧fl.length=nf∧nf=(frI ks).length∧nf≤3∧fl=(frI ks).map fun(v:Nat)=>(v:Int)from⟨hkf,by rw[hfl,hnf];simp,hnf,by rw[hnf];exact hok.fr,hfl⟩)
 rw[← hmn,← hnl,← hnk,← hnb]
 clear hok bF aY hrl hrb hmn hnk hnb hnl hml hkf hfl hnf bE bA
 go_enter Try.func94,Try.ntmps94
 go_upto_region 2 with (fail)
 obtain⟨gp,hgp⟩: ∃g,g=W.heap.size:=⟨_,rfl⟩
 obtain⟨w1,aM⟩: ∃w1,w1=(W.alloc (.cells #[.slice A0 nk c0,.slice A1 nb c1] 33)).alloc (.cells #[] 140):=⟨_,rfl⟩
 rw[← hgp,← aM]
 have HG:=Aside0.mk (show w1.heap[gp]? =some (.cells #[.slice A0 nk c0,.slice A1 nb c1] 33 (0,0))∧W.heap.size≤gp∧TJ W 0 ml (.slice (some ⟨gp+1,0,none⟩) 0 0) (fun _=>0) (fun _=>0) (fun _ _=>0) w1 from by
  refine⟨by rw[aM,hgp];exact alloc_old (alloc_at _ _) _,Nat.le_of_eq hgp.symm,?_,fun i hi=>absurd hi (Nat.not_lt_zero _),fun i j hi=>absurd hi (Nat.not_lt_zero _),fun i hi=>absurd hi (Nat.not_lt_zero _),by rw[aM];exact below_alloc (below_alloc (Below.refl _ _) _) _⟩
  have r:=lit_R (Kd.raw 1) (W.alloc (.cells #[.slice A0 nk c0,.slice A1 nb c1] 33)) 140 W.heap.size (xs:=[]) (inner:=[]) (fun _ _ _=>Reps.none _ _) (by rw[size_alloc];omega) (by simp)
  rw[size_alloc,← hgp]at r
  rw[aM,← hgp];exact r)
 clear hgp aM
 have f0:=blk_cell HG.out.1 0
 have f1:=blk_cell HG.out.1 1
 simp only[List.getElem?_toArray,List.getElem?_cons_zero,List.getElem?_cons_succ]at f0 f1
 go_wp2_with (go_at_call 58;have hC_:=impl_freeKnots.calls kf A0 c0 ks A1 c1 bs fl w1 (Kd.C_below HR.out.1 HG.out.2.2.bw) HC.out.1 (Kd.C_below HR.out.2.1 HG.out.2.2.bw) HC.out.2 HF.out.1;rw[← HN.out.2.1,← HN.out.2.2.1]at hC_;refine hC_.mono ?_;clear hC_;rintro e w2 ⟨bS,rfl,hr,hb⟩;obtain⟨bB,aC,hv⟩:=Kd.R_slice hr;rw[HF.out.2.1]at hv;subst hv;have HL:=Aside0.mk (show BI W gp #[.slice A0 nk c0,.slice A1 nb c1] (.slice bB nf aC) fl w2∧Below w1.heap.size w1 w2 from⟨⟨blk_below HG.out.1 hb,Kd.R_lower hr HG.out.2.2.bw.size⟩,hb⟩);clear hr hb)
 clear f0 f1
 go_loopg [7,20] (nf+1) (fun kq v7 bM w'=>∃(v:Nat) (vi:Int) (b cc:Nat→Nat) (X:Nat→Nat→Int),bM= .int .i64 vi∧Aside0 (vi=(v:Int)∧v+kq=nf+1∧1≤kq)∧Aside0 (TJ W (2*v) ml v7 b cc X w'∧BI W gp #[.slice A0 nk c0,.slice A1 nb c1] (.slice bB nf aC) fl w')∧Aside0 (∀i j,i<2*v→j<2*ml→X i j=FT (Qr (tblM ks bs ld bars) 1) i j))
 case atStart=>exact⟨0,0,_,_,_,rfl,⟨rfl,by omega,by omega⟩,⟨HG.out.2.2.below HL.out.2,HL.out.1⟩,⟨fun i j hi _=>absurd hi (Nat.not_lt_zero _)⟩⟩
 case round=>
  obtain⟨v,vi,b,cc,X,rfl,HA,HI,HX⟩:=hrel
  obtain⟨gq,rfl⟩: ∃k,gk=k+1:=⟨gk - 1,by have:=HA.out;omega⟩
  obtain⟨Av,cv,hvs⟩:=Kd.R_slice HI.out.1.hd
  rw[show((List.range (2*v)).map fun i=>[Value.slice (some ⟨b i,0,none⟩) ml (cc i)]).length=2*v from by simp]at hvs
  subst hvs
  have bC:vi.toNat=v:=by have:=HA.out;omega
  have bK:=Aside0.mk bC
  clear bC
  by_cases c2:v<nf
  ·have d1:decide (vi<(nf:Int))=true:=decide_eq_true (by have:=HA.out;omega)
   obtain⟨ad,had,h0⟩:=Kd.at_int (Kd.R_reads' HI.out.2.fl).2.2 vi (by have:=HA.out;omega) (by have:=HA.out;have:=HF.out.2.1;omega)
   subst had
   obtain⟨kv,hkv⟩: ∃kv:Nat,kv=(frI ks).getD v 0:=⟨_,rfl⟩
   have hrd:rd fl vi=(kv:Int):=by
    rw[HF.out.2.2.2.2]
    unfold rd
    rw[bK.out,hkv,List.getD_eq_getElem?_getD,List.getD_eq_getElem?_getD,List.getElem?_map]
    have hv_:v<(frI ks).length:=by have:=HF.out.2.2.1;omega
    rw[List.getElem?_eq_getElem hv_];rfl
   rw[hrd]at h0
   have HKV:=Aside0.mk (show kv=(frI ks).getD v 0∧kv<nk∧kv<nl from by
    have hlt:=frI_get (ks:=ks) (k:=v) (by have:=HF.out;omega)
    rw[← hkv]at hlt
    have h4:=HN.out;have h5:=H0.out.ll
    exact⟨hkv,by omega,by omega⟩)
   obtain⟨kx,hkx⟩: ∃kx:Int,kx=(kv:Int):=⟨_,rfl⟩
   rw[← hkx]at h0
   have HKX:=Aside0.mk hkx
   have C2:=Aside0.mk c2
   clear c2 hkv hrd hkx
   have p1:(0≤vi)=True:=eq_true (by have:=HA.out;omega)
   have p2:(vi<(nf:Int))=True:=eq_true (by have:=HA.out;have:=C2.out;omega)
   go_wp2_with (fail)
   go_loopg [10,11,28] (mn+1) (fun kq bO bI bL w'=>∃(j:Nat) (jj:Int) (xs ys:List (List Value)),bL= .int .i64 jj∧Aside0 (jj=(j:Int)∧j+kq=mn+1∧1≤kq)∧Aside0 (TJ W (2*v) ml (.slice Av (2*v) cv) b cc X w'∧RF2 W (2*v) b bO bI xs ys w'∧BI W gp #[.slice A0 nk c0,.slice A1 nb c1] (.slice (some ad) nf aC) fl w')∧Aside0 (xs=(List.range j).map (fun(j':Nat)=>frv (colE ks 0 kx (rd_T104 bs (rd bars (j':Int)))))∧ys=(List.range j).map (fun(j':Nat)=>frv (colE ks 1 kx (rd_T104 bs (rd bars (j':Int)))))))
   case atStart=>
    have b1:Below wr.heap.size wr ((wr.alloc (.cells #[] 142)).alloc (.cells #[] 142)):=below_alloc (below_alloc (Below.refl _ _) _) _
    have hsz:=HI.out.1.bw.size
    have r1:=lit_R (Kd.raw 2) wr 142 W.heap.size (xs:=[]) (inner:=[]) (fun _ _ _=>Reps.none _ _) hsz (by simp)
    have r2:=lit_R (Kd.raw 2) (wr.alloc (.cells #[] 142)) 142 W.heap.size (xs:=[]) (inner:=[]) (fun _ _ _=>Reps.none _ _) (by rw[size_alloc];omega) (by simp)
    rw[size_alloc]at r2
    have hlt:=HI.out.1.rows_lt
    refine⟨0,0,[],[],rfl,⟨rfl,by omega,by omega⟩,⟨HI.out.1.below b1,⟨Kd.R_alloc r1 _,r2,fun k hk=>?_,fun k hk i hi z=>?_⟩,HI.out.2.below b1⟩,⟨rfl,rfl⟩⟩
    ·injection hk with hk
     have hk:wr.heap.size=k:=hk
     subst hk
     exact⟨fun z=>by injection z with z;have z:wr.heap.size+1=wr.heap.size:=z;omega,fun i hi z=>by have:=hlt i hi;omega⟩
    ·injection hk with hk
     have hk:wr.heap.size+1=k:=hk
     have:=hlt i hi;omega
   case round=>
    obtain⟨j,jj,xs,ys,rfl,HD,HK,HY⟩:=hrel
    obtain⟨gr,rfl⟩: ∃k,gk=k+1:=⟨gk - 1,by have:=HD.out;omega⟩
    obtain⟨A9,c9,bN⟩:=Kd.R_slice HK.out.2.1.x
    obtain⟨aJ,c10,aV⟩:=Kd.R_slice HK.out.2.1.y
    subst bN aV
    have bD:jj.toNat=j:=by have:=HD.out;omega
    have bQ:=Aside0.mk bD
    clear bD h0
    by_cases c4:j<mn
    ·have d2:decide (jj<(mn:Int))=true:=decide_eq_true (by have:=HD.out;omega)
     have C4:=Aside0.mk c4
     clear c4
     obtain⟨x,hx⟩: ∃x,x=rd bars jj:=⟨_,rfl⟩
     obtain⟨fb,hfb⟩: ∃fb,fb=rd_T104 bs x:=⟨_,rfl⟩
     have aG:=Aside0.mk (show x=rd bars ((j:Nat):Int)∧(0≤x∧x<(nb:Int))∧fb=rd_T104 bs x from by
      have e:jj=((j:Nat):Int):=HD.out.1
      have hxm:=H0.out.idx x (by rw[hx,e];exact rd_memI (by omega) (by have:=HN.out.1;have:=C4.out;omega))
      have:=HN.out
      exact⟨by rw[hx,e],⟨hxm.1,by omega⟩,hfb⟩)
     have hbw:=HK.out.1.bw
     obtain⟨ab,hab,k0⟩:=Kd.at_int (Kd.C_below HR.out.2.2.2 hbw) jj (by have:=HD.out;omega) (by have:=HD.out;have:=C4.out;have:=HN.out;omega)
     subst hab
     rw[← hx]at k0
     obtain⟨a4,bH,k1,k2,k3⟩:=at_T104 (Kd.C_below HR.out.2.1 hbw) x aG.out.2.1.1 (by have:=aG.out;have:=HN.out;omega)
     subst bH
     rw[← hfb]at k1 k2 k3
     have hgf:=HK.out.2.2.gpb
     have q0:=blk_cell hgf 0
     have q1:=blk_cell hgf 1
     simp only[List.getElem?_toArray,List.getElem?_cons_zero,List.getElem?_cons_succ]at q0 q1
     clear hgf hx hfb
     have p3:(0≤jj)=True:=eq_true (by have:=HD.out;omega)
     have p4:(jj<(mn:Int))=True:=eq_true (by have:=HD.out;have:=C4.out;omega)
     have p5:(0≤x)=True:=eq_true aG.out.2.1.1
     have p6:(x<(nb:Int))=True:=eq_true aG.out.2.1.2
     obtain⟨ex,hex⟩: ∃z,z=colE ks 0 kx fb:=⟨_,rfl⟩
     obtain⟨ey,hey⟩: ∃z,z=colE ks 1 kx fb:=⟨_,rfl⟩
     have hpe:=pullE H0.out aG.out.2.1.1 (by have:=aG.out.2.1;have:=HN.out;omega) aG.out.2.2 (v:=kx)
     rw[← hex,← hey]at hpe
     have HPL:=Aside0.mk (show∀w',Below wr.heap.size wr w'→Calls Try.prog 71 #[.agg #[.slice A0 nk c0,.slice (some a4) nb c1],.agg #[.int .i64 fb.f0,.int .i64 fb.f1,.bool fb.f2],.int .i64 kx] w' fun e w''=>e= .returned (.tuple #[.int .i64 ex,.int .i64 ey])∧Below w'.heap.size w' w'' from fun w' hb'=>by
      have h:=impl_pullOf.calls A0 c0 ks (some a4) c1 bs fb.f0 fb.f1 fb.f2 kx ex ey w' (Kd.C_below HR.out.1 (below_step HK.out.1.bw hb')) HC.out.1 (Kd.C_below HR.out.2.1 (below_step HK.out.1.bw hb')) HC.out.2 hpe.1
      rw[← HN.out.2.1,← HN.out.2.2.1]at h;exact h)
     obtain⟨kfx,hkfx⟩:=frac1 ex (by have:=hpe.2.1;omega)
     obtain⟨kfy,hkfy⟩:=frac1 ey (by have:=hpe.2.2;omega)
     have HEX:=Aside0.mk (And.intro hex (And.intro hey (And.intro hkfx hkfy)))
     clear hex hey hpe hkfx hkfy
     go_upto_region 9 with (fail)
     refine start_ (n:=13) (S:=fun w'=>w'.cell? ⟨gp,0,none⟩=some (.slice A0 nk c0)∧w'.cell? ⟨gp,1,none⟩=some (.slice (some a4) nb c1)∧w'.cell? (a4.add (x.toNat*3))=some (.int .i64 fb.f0)∧w'.cell? ⟨(a4.add (x.toNat*3)).block,(a4.add (x.toNat*3)).off+1,none⟩=some (.int .i64 fb.f1)∧w'.cell? ⟨(a4.add (x.toNat*3)).block,(a4.add (x.toNat*3)).off+2,none⟩=some (.bool fb.f2)) (ds:=[]) #[false,false,false,false,false,false,false,false,false,false,false,false,false] (by kernel_rfl) rfl rfl ⟨q0,q1,k1,k2,k3⟩ (fun hHeld=>?_)
     refine take_ (i:=0) (N:=some 33) (v:=?_) (a':=?_) #[true,false,false,false,false,false,false,false,false,false,false,false,false] rfl rfl (by kernel_rfl) (fun _ _ _ h=>h) (Or.inl ⟨by rfl,?_⟩) hHeld ?_ ?_
     rotate_left
     ·rintro w' ⟨s0,s1,s2,s3,s4⟩
      go_simp
      with_reducible rfl
     rotate_left
     ·simp only[Act.put,List.setIfInBounds_toArray,List.set_cons_zero,List.set_cons_succ,i64_w,i32_w]
      rfl
     refine pure_ (i:=1) (N:=some 34) (v:=?_) (a':=?_) #[true,true,false,false,false,false,false,false,false,false,false,false,false] rfl rfl (by kernel_rfl) (fun _ _ _ h=>h) (Or.inl ⟨by rfl,?_⟩) ?_ ?_
     rotate_left
     ·intro w'
      go_simp
      with_reducible rfl
     rotate_left
     ·simp only[Act.put,List.setIfInBounds_toArray,List.set_cons_zero,List.set_cons_succ,i64_w,i32_w]
      rfl
     refine take_ (i:=2) (N:=some 35) (v:=?_) (a':=?_) #[true,true,true,false,false,false,false,false,false,false,false,false,false] rfl rfl (by kernel_rfl) (fun _ _ _ h=>h) (Or.inl ⟨by rfl,?_⟩) hHeld ?_ ?_
     rotate_left
     ·rintro w' ⟨s0,s1,s2,s3,s4⟩
      go_simp
      with_reducible rfl
     rotate_left
     ·simp only[Act.put,List.setIfInBounds_toArray,List.set_cons_zero,List.set_cons_succ,i64_w,i32_w]
      rfl
     refine pure_ (i:=3) (N:=some 36) (v:=?_) (a':=?_) #[true,true,true,true,false,false,false,false,false,false,false,false,false] rfl rfl (by kernel_rfl) (fun _ _ _ h=>h) (Or.inl ⟨by rfl,?_⟩) ?_ ?_
     rotate_left
     ·intro w'
      go_simp
      with_reducible rfl
     rotate_left
     ·simp only[Act.put,List.setIfInBounds_toArray,List.set_cons_zero,List.set_cons_succ,i64_w,i32_w]
      rfl
     refine pure_ (i:=4) (N:=some 37) (v:=?_) (a':=?_) #[true,true,true,true,true,false,false,false,false,false,false,false,false] rfl rfl (by kernel_rfl) (fun _ _ _ h=>h) (Or.inl ⟨by rfl,?_⟩) ?_ ?_
     rotate_left
     ·intro w'
      go_simp
      with_reducible rfl
     rotate_left
     ·simp only[Act.put,List.setIfInBounds_toArray,List.set_cons_zero,List.set_cons_succ,i64_w,i32_w]
      rfl
     refine take_ (i:=5) (N:=some 38) (v:=?_) (a':=?_) #[true,true,true,true,true,true,false,false,false,false,false,false,false] rfl rfl (by kernel_rfl) (fun _ _ _ h=>h) (Or.inl ⟨by rfl,?_⟩) hHeld ?_ ?_
     rotate_left
     ·rintro w' ⟨s0,s1,s2,s3,s4⟩
      go_simp
      with_reducible rfl
     rotate_left
     ·simp only[Act.put,List.setIfInBounds_toArray,List.set_cons_zero,List.set_cons_succ,i64_w,i32_w]
      rfl
     refine pure_ (i:=6) (N:=some 39) (v:=?_) (a':=?_) #[true,true,true,true,true,true,true,false,false,false,false,false,false] rfl rfl (by kernel_rfl) (fun _ _ _ h=>h) (Or.inl ⟨by rfl,?_⟩) ?_ ?_
     rotate_left
     ·intro w'
      go_simp
      with_reducible rfl
     rotate_left
     ·simp only[Act.put,List.setIfInBounds_toArray,List.set_cons_zero,List.set_cons_succ,i64_w,i32_w]
      rfl
     refine one_ (i:=7) (N:=some 40) #[true,true,true,true,true,true,true,true,false,false,false,false,false] rfl rfl (by kernel_rfl) (by decide) (fun K hK=>?_)
     refine goes_ Try.func71 (by kernel_rfl) rfl #[.agg #[.slice A0 nk c0,.slice (some a4) nb c1],.agg #[.int .i64 fb.f0,.int .i64 fb.f1,.bool fb.f2],.int .i64 kx] (by rfl) rfl rfl (by(try simp only[List.map_toArray,List.map_cons,List.map_nil]);first|done|rfl) ?_
     refine(HPL.out wr.drew (below_drew (Below.refl _ _))).mono ?_
     rintro e w3 ⟨rfl,hb⟩
     refine⟨_,rfl,?_⟩
     have aQ:=Aside0.mk (show Below wr.heap.size wr w3 from below_step (below_drew (Below.refl _ _)) hb)
     refine hK.out _ _ ⟨(hb.cell (World.block_lt_of_cell? _ _ hHeld.1)).trans hHeld.1,(hb.cell (World.block_lt_of_cell? _ _ hHeld.2.1)).trans hHeld.2.1,(hb.cell (World.block_lt_of_cell? _ _ hHeld.2.2.1)).trans hHeld.2.2.1,(hb.cell (World.block_lt_of_cell? _ _ hHeld.2.2.2.1)).trans hHeld.2.2.2.1,(hb.cell (World.block_lt_of_cell? _ _ hHeld.2.2.2.2)).trans hHeld.2.2.2.2⟩ (fun hHeld=>?_)
     clear hK K hb
     refine norm_ (a':=?_) ?_ ?_
     rotate_left
     ·show Act.put _ (some 40) _=_
      simp only[Act.put,List.setIfInBounds_toArray,List.set_cons_zero,List.set_cons_succ,i64_w,i32_w]
      rfl
     refine pure_ (i:=8) (N:=some 32) (v:=?_) (a':=?_) #[true,true,true,true,true,true,true,true,true,false,false,false,false] rfl rfl (by kernel_rfl) (fun _ _ _ h=>h) (Or.inl ⟨by rfl,?_⟩) ?_ ?_
     rotate_left
     ·intro w'
      go_simp
      with_reducible rfl
     rotate_left
     ·simp only[Act.put,List.setIfInBounds_toArray,List.set_cons_zero,List.set_cons_succ,i64_w,i32_w]
      rfl
     refine pure_ (i:=9) (N:=some 41) (v:=?_) (a':=?_) #[true,true,true,true,true,true,true,true,true,true,false,false,false] rfl rfl (by kernel_rfl) (fun _ _ _ h=>h) (Or.inl ⟨by rfl,?_⟩) ?_ ?_
     rotate_left
     ·intro w'
      go_simp
      with_reducible rfl
     rotate_left
     ·simp only[Act.put,List.setIfInBounds_toArray,List.set_cons_zero,List.set_cons_succ,i64_w,i32_w]
      rfl
     refine pure_ (i:=10) (N:=some 42) (v:=?_) (a':=?_) #[true,true,true,true,true,true,true,true,true,true,true,false,false] rfl rfl (by kernel_rfl) (fun _ _ _ h=>h) (Or.inl ⟨by rfl,?_⟩) ?_ ?_
     rotate_left
     ·intro w'
      go_simp
      with_reducible rfl
     rotate_left
     ·simp only[Act.put,List.setIfInBounds_toArray,List.set_cons_zero,List.set_cons_succ,i64_w,i32_w]
      rfl
     refine pure_ (i:=11) (N:=some 14) (v:=?_) (a':=?_) #[true,true,true,true,true,true,true,true,true,true,true,true,false] rfl rfl (by kernel_rfl) (fun _ _ _ h=>h) (Or.inl ⟨by rfl,?_⟩) ?_ ?_
     rotate_left
     ·intro w'
      go_simp
      with_reducible rfl
     rotate_left
     ·simp only[Act.put,List.setIfInBounds_toArray,List.set_cons_zero,List.set_cons_succ,i64_w,i32_w]
      rfl
     refine pure_ (i:=12) (N:=some 15) (v:=?_) (a':=?_) #[true,true,true,true,true,true,true,true,true,true,true,true,true] rfl rfl (by kernel_rfl) (fun _ _ _ h=>h) (Or.inl ⟨by rfl,?_⟩) ?_ ?_
     rotate_left
     ·intro w'
      go_simp
      with_reducible rfl
     rotate_left
     ·simp only[Act.put,List.setIfInBounds_toArray,List.set_cons_zero,List.set_cons_succ,i64_w,i32_w]
      rfl
     refine done_ (by kernel_rfl) ?_
     have aU:=Aside0.mk (show TJ W (2*v) ml (.slice Av (2*v) cv) b cc X w3∧RF2 W (2*v) b (.slice A9 xs.length c9) (.slice aJ ys.length c10) xs ys w3∧BI W gp #[.slice A0 nk c0,.slice (some a4) nb c1] (.slice (some ad) nf aC) fl w3 from⟨HK.out.1.below aQ.out,HK.out.2.1.below aQ.out,HK.out.2.2.below aQ.out⟩)
     have HLEN:=Aside0.mk (show xs.length=j∧ys.length=j∧j≤8 from by rw[HY.out.1,HY.out.2];have:=H0.out.b8;have:=HN.out;have:=C4.out;simp;omega)
     clear q0 q1 k0 k1 k2 k3 hbw hHeld HK HPL aQ
     go_upto_region 11 with (first
      |(go_at_call 106;refine(impl_fraction.calls kfx ex 1 ex 1 w3 HEX.out.2.2.1).mono ?_;rintro e w4 ⟨rfl,hb⟩;have aI:=Aside0.mk (show TJ W (2*v) ml (.slice Av (2*v) cv) b cc X w4∧RF2 W (2*v) b (.slice A9 xs.length c9) (.slice aJ ys.length c10) xs ys w4∧BI W gp #[.slice A0 nk c0,.slice (some a4) nb c1] (.slice (some ad) nf aC) fl w4 from⟨aU.out.1.below hb,aU.out.2.1.below hb,aU.out.2.2.below hb⟩);clear hb)
      |(at_builtin;refine Kd.R_append (Kd.raw 2) (w0:=W) W.heap.size rfl (.tmp 43) (.tmp 46) 140 142 (.agg #[.int .i64 0,.int .i64 0]) 16 rfl Try.underlying140 infoFr rfl (by decide) (by omega) (.slice A9 xs.length c9) xs (frv ex) [.int .i64 ex,.int .i64 1] (fun _=>True) (fun _=>False) rfl (by first|(go_simp;done)|(go_simp;rfl)) ?aP (fun _ hk=>hk.elim) ?aF ?aO ?aB ?aS ?aL ?_;(case aP=>exact⟨rfl,rfl,by intro u hu;simp at hu;rcases hu with rfl|rfl <;> rfl⟩);(case aF=>exact fun _ _=>trivial);(case aO=>exact aI.out.2.1.x);(case aB=>exact aI.out.1.bw);(case aS=>exact aI.out.1.bw.size);(case aL=>have:=HLEN.out;omega);intro aX w5 ho hb hg hat;have aW:=Aside0.mk (show TJ W (2*v) ml (.slice Av (2*v) cv) b cc X w5∧RF2 W (2*v) b aX (.slice aJ ys.length c10) (xs ++ [frv ex]) ys w5∧BI W gp #[.slice A0 nk c0,.slice (some a4) nb c1] (.slice (some ad) nf aC) fl w5 from⟨aI.out.1.grown aI.out.2.1.x (fun k hk=>(aI.out.2.1.ax k hk).2) hg hb,aI.out.2.1.growX aI.out.1.rows_lt ho hg hat,aI.out.2.2.grown aI.out.2.1.x (by decide) (by decide) hg⟩);clear ho hb hg hat))
     go_wp2_with (first
      |(go_at_call 106;refine(impl_fraction.calls kfy ey 1 ey 1 w5 HEX.out.2.2.2).mono ?_;rintro e w6 ⟨rfl,hb⟩;have aH:=Aside0.mk (show TJ W (2*v) ml (.slice Av (2*v) cv) b cc X w6∧RF2 W (2*v) b aX (.slice aJ ys.length c10) (xs ++ [frv ex]) ys w6∧BI W gp #[.slice A0 nk c0,.slice (some a4) nb c1] (.slice (some ad) nf aC) fl w6 from⟨aW.out.1.below hb,aW.out.2.1.below hb,aW.out.2.2.below hb⟩);clear hb)
      |(at_builtin;refine Kd.R_append (Kd.raw 2) (w0:=W) W.heap.size rfl (.tmp 48) (.tmp 51) 140 142 (.agg #[.int .i64 0,.int .i64 0]) 16 rfl Try.underlying140 infoFr rfl (by decide) (by omega) (.slice aJ ys.length c10) ys (frv ey) [.int .i64 ey,.int .i64 1] (fun _=>True) (fun _=>False) rfl (by first|(go_simp;done)|(go_simp;rfl)) ?aP (fun _ hk=>hk.elim) ?aF ?aO ?aB ?aS ?aL ?_;(case aP=>exact⟨rfl,rfl,by intro u hu;simp at hu;rcases hu with rfl|rfl <;> rfl⟩);(case aF=>exact fun _ _=>trivial);(case aO=>exact aH.out.2.1.y);(case aB=>exact aH.out.1.bw);(case aS=>exact aH.out.1.bw.size);(case aL=>have:=HLEN.out;omega);intro aT w7 ho hb hg hat;have bJ:=Aside0.mk (show TJ W (2*v) ml (.slice Av (2*v) cv) b cc X w7∧RF2 W (2*v) b aX aT (xs ++ [frv ex]) (ys ++ [frv ey]) w7∧BI W gp #[.slice A0 nk c0,.slice (some a4) nb c1] (.slice (some ad) nf aC) fl w7 from⟨aH.out.1.grown aH.out.2.1.y aH.out.2.1.ay hg hb,aH.out.2.1.growY aH.out.1.rows_lt ho hg hat,aH.out.2.2.grown aH.out.2.1.y (by decide) (by decide) hg⟩);clear ho hb hg hat))
     go_roundg gr
     case measure=>omega
     case rel=>
      have h1:=HD.out;have h2:=C4.out;have h3:=H0.out.b8;have h4:=HN.out
      have hw:=wrap_id (jj+1) (by omega) (by omega)
      refine⟨j+1,jj+1,xs ++ [frv ex],ys ++ [frv ey],by rw[hw],⟨by omega,by omega,by omega⟩,bJ,⟨?_,?_⟩⟩
      ·rw[List.range_succ,List.map_append,← HY.out.1,HEX.out.1,aG.out.2.2,aG.out.1];rfl
      ·rw[List.range_succ,List.map_append,← HY.out.2,HEX.out.2.1,aG.out.2.2,aG.out.1];rfl
    ·have C4:=Aside0.mk (show j=mn from by have:=HD.out;omega)
     have d2:decide (jj<(mn:Int))=false:=decide_eq_false (by have:=HD.out;have:=C4.out;omega)
     clear c4
     have HLEN:=Aside0.mk (show xs.length=mn∧ys.length=mn∧mn≤8 from by rw[HY.out.1,HY.out.2];have:=H0.out.b8;have:=HN.out;have:=C4.out;simp;omega)
     obtain⟨lx,hlx⟩: ∃z,z=(rd_T76 ld kx).f0:=⟨_,rfl⟩
     obtain⟨ly,hly⟩: ∃z,z=(rd_T76 ld kx).f1:=⟨_,rfl⟩
     have hvl:0≤kx∧kx<(nl:Int):=by have:=HKV.out;have:=HKX.out;omega
     obtain⟨al,hal,l0,l1⟩:=at_T76 HR.out.2.2.1 kx hvl.1 (by have:=HN.out;omega)
     subst hal
     rw[← hlx]at l0
     rw[← hly]at l1
     have L0:=Aside0.mk l0
     have L1:=Aside0.mk l1
     clear l0 l1
     have hlb:=H0.out.lb _ (rdL_mem (ks:=ld) (a:=kx) hvl.1 (by have:=HN.out;omega))
     rw[← hlx,← hly]at hlb
     obtain⟨nx,hnx⟩: ∃z,z= -lx:=⟨_,rfl⟩
     obtain⟨ny,hny⟩: ∃z,z= -ly:=⟨_,rfl⟩
     have wx:wrap64 (-lx)=nx:=by rw[hnx];exact wrap_id _ (by omega) (by omega)
     have bR:IntKind.i64.wrap (-lx)=nx:=(i64_w _).trans wx
     have wy:wrap64 (-ly)=ny:=by rw[hny];exact wrap_id _ (by omega) (by omega)
     have bP:IntKind.i64.wrap (-ly)=ny:=(i64_w _).trans wy
     have p3:(0≤kx)=True:=eq_true hvl.1
     have p4:(kx<(nl:Int))=True:=eq_true hvl.2
     obtain⟨kfx,hkfx⟩:=frac1 nx (by omega)
     obtain⟨kfy,hkfy⟩:=frac1 ny (by omega)
     have HLX:=Aside0.mk (And.intro hlx (And.intro hly (And.intro hnx (And.intro hny (And.intro hkfx hkfy)))))
     clear hlx hly hnx hny hlb hvl hkfx hkfy
     go_upto_region 13 with (fail)
     have HSF:=Aside0.mk (show∀w',Below W.heap.size W w'→(w'.cell? (al.add (kx.toNat*2))=some (.int .i64 lx)∧w'.cell? ⟨(al.add (kx.toNat*2)).block,(al.add (kx.toNat*2)).off+1,none⟩=some (.int .i64 ly))from fun w' h2=>⟨(h2.cell (World.block_lt_of_cell? _ _ L0.out)).trans L0.out,(h2.cell (World.block_lt_of_cell? _ _ L1.out)).trans L1.out⟩)
     refine start_ (n:=24) (S:=fun w'=>w'.cell? (al.add (kx.toNat*2))=some (.int .i64 lx)∧w'.cell? ⟨(al.add (kx.toNat*2)).block,(al.add (kx.toNat*2)).off+1,none⟩=some (.int .i64 ly)) (ds:=[]) #[false,false,false,false,false,false,false,false,false,false,false,false,false,false,false,false,false,false,false,false,false,false,false,false] (by kernel_rfl) rfl rfl (HSF.out _ HK.out.1.bw.drew) (fun hHeld=>?_)
     refine pure_ (i:=0) (N:=some 54) (v:=?_) (a':=?_) #[true,false,false,false,false,false,false,false,false,false,false,false,false,false,false,false,false,false,false,false,false,false,false,false] rfl rfl (by kernel_rfl) (fun _ _ _ h=>h) (Or.inl ⟨by rfl,?_⟩) ?_ ?_
     rotate_left
     ·intro w'
      go_simp
      with_reducible rfl
     rotate_left
     ·simp only[Act.put,List.setIfInBounds_toArray,List.set_cons_zero,List.set_cons_succ,i64_w,i32_w]
      rfl
     refine pure_ (i:=1) (N:=some 55) (v:=?_) (a':=?_) #[true,true,false,false,false,false,false,false,false,false,false,false,false,false,false,false,false,false,false,false,false,false,false,false] rfl rfl (by kernel_rfl) (fun _ _ _ h=>h) (Or.inl ⟨by rfl,?_⟩) ?_ ?_
     rotate_left
     ·intro w'
      go_simp
      with_reducible rfl
     rotate_left
     ·simp only[Act.put,List.setIfInBounds_toArray,List.set_cons_zero,List.set_cons_succ,i64_w,i32_w]
      rfl
     refine pure_ (i:=2) (N:=some 56) (v:=?_) (a':=?_) #[true,true,true,false,false,false,false,false,false,false,false,false,false,false,false,false,false,false,false,false,false,false,false,false] rfl rfl (by kernel_rfl) (fun _ _ _ h=>h) (Or.inl ⟨by rfl,?_⟩) ?_ ?_
     rotate_left
     ·intro w'
      go_simp
      with_reducible rfl
     rotate_left
     ·simp only[Act.put,List.setIfInBounds_toArray,List.set_cons_zero,List.set_cons_succ,i64_w,i32_w]
      rfl
     refine pure_ (i:=3) (N:=some 57) (v:=?_) (a':=?_) #[true,true,true,true,false,false,false,false,false,false,false,false,false,false,false,false,false,false,false,false,false,false,false,false] rfl rfl (by kernel_rfl) (fun _ _ _ h=>h) (Or.inl ⟨by rfl,?_⟩) ?_ ?_
     rotate_left
     ·intro w'
      go_simp
      with_reducible rfl
     rotate_left
     ·simp only[Act.put,List.setIfInBounds_toArray,List.set_cons_zero,List.set_cons_succ,i64_w,i32_w]
      rfl
     refine pure_ (i:=4) (N:=some 58) (v:=?_) (a':=?_) #[true,true,true,true,true,false,false,false,false,false,false,false,false,false,false,false,false,false,false,false,false,false,false,false] rfl rfl (by kernel_rfl) (fun _ _ _ h=>h) (Or.inl ⟨by rfl,?_⟩) ?_ ?_
     rotate_left
     ·intro w'
      go_simp
      with_reducible rfl
     rotate_left
     ·simp only[Act.put,List.setIfInBounds_toArray,List.set_cons_zero,List.set_cons_succ,i64_w,i32_w]
      rfl
     refine pure_ (i:=5) (N:=some 59) (v:=?_) (a':=?_) #[true,true,true,true,true,true,false,false,false,false,false,false,false,false,false,false,false,false,false,false,false,false,false,false] rfl rfl (by kernel_rfl) (fun _ _ _ h=>h) (Or.inl ⟨by rfl,?_⟩) ?_ ?_
     rotate_left
     ·intro w'
      go_simp
      with_reducible rfl
     rotate_left
     ·simp only[Act.put,List.setIfInBounds_toArray,List.set_cons_zero,List.set_cons_succ,i64_w,i32_w]
      rfl
     refine take_ (i:=6) (N:=some 60) (v:=?_) (a':=?_) #[true,true,true,true,true,true,true,false,false,false,false,false,false,false,false,false,false,false,false,false,false,false,false,false] rfl rfl (by kernel_rfl) (fun _ _ _ h=>h) (Or.inl ⟨by rfl,?_⟩) hHeld ?_ ?_
     rotate_left
     ·rintro w' ⟨s0,s1⟩
      go_simp
      with_reducible rfl
     rotate_left
     ·simp only[Act.put,List.setIfInBounds_toArray,List.set_cons_zero,List.set_cons_succ,i64_w,i32_w]
      rfl
     refine pure_ (i:=7) (N:=some 61) (v:=?_) (a':=?_) #[true,true,true,true,true,true,true,true,false,false,false,false,false,false,false,false,false,false,false,false,false,false,false,false] rfl rfl (by kernel_rfl) (fun _ _ _ h=>h) (Or.inl ⟨by rfl,?_⟩) ?_ ?_
     rotate_left
     ·intro w'
      go_simp
      with_reducible rfl
     rotate_left
     ·simp only[Act.put,List.setIfInBounds_toArray,List.set_cons_zero,List.set_cons_succ,i64_w,i32_w]
      rfl
     refine pure_ (i:=11) (N:=some 65) (v:=?_) (a':=?_) #[true,true,true,true,true,true,true,true,false,false,false,true,false,false,false,false,false,false,false,false,false,false,false,false] rfl rfl (by kernel_rfl) (fun _ _ _ h=>h) (Or.inl ⟨by rfl,?_⟩) ?_ ?_
     rotate_left
     ·intro w'
      go_simp
      with_reducible rfl
     rotate_left
     ·simp only[Act.put,List.setIfInBounds_toArray,List.set_cons_zero,List.set_cons_succ,i64_w,i32_w]
      rfl
     refine pure_ (i:=12) (N:=some 66) (v:=?_) (a':=?_) #[true,true,true,true,true,true,true,true,false,false,false,true,true,false,false,false,false,false,false,false,false,false,false,false] rfl rfl (by kernel_rfl) (fun _ _ _ h=>h) (Or.inl ⟨by rfl,?_⟩) ?_ ?_
     rotate_left
     ·intro w'
      go_simp
      with_reducible rfl
     rotate_left
     ·simp only[Act.put,List.setIfInBounds_toArray,List.set_cons_zero,List.set_cons_succ,i64_w,i32_w]
      rfl
     refine pure_ (i:=13) (N:=some 67) (v:=?_) (a':=?_) #[true,true,true,true,true,true,true,true,false,false,false,true,true,true,false,false,false,false,false,false,false,false,false,false] rfl rfl (by kernel_rfl) (fun _ _ _ h=>h) (Or.inl ⟨by rfl,?_⟩) ?_ ?_
     rotate_left
     ·intro w'
      go_simp
      with_reducible rfl
     rotate_left
     ·simp only[Act.put,List.setIfInBounds_toArray,List.set_cons_zero,List.set_cons_succ,i64_w,i32_w]
      rfl
     refine pure_ (i:=14) (N:=some 68) (v:=?_) (a':=?_) #[true,true,true,true,true,true,true,true,false,false,false,true,true,true,true,false,false,false,false,false,false,false,false,false] rfl rfl (by kernel_rfl) (fun _ _ _ h=>h) (Or.inl ⟨by rfl,?_⟩) ?_ ?_
     rotate_left
     ·intro w'
      go_simp
      with_reducible rfl
     rotate_left
     ·simp only[Act.put,List.setIfInBounds_toArray,List.set_cons_zero,List.set_cons_succ,i64_w,i32_w]
      rfl
     refine pure_ (i:=15) (N:=some 69) (v:=?_) (a':=?_) #[true,true,true,true,true,true,true,true,false,false,false,true,true,true,true,true,false,false,false,false,false,false,false,false] rfl rfl (by kernel_rfl) (fun _ _ _ h=>h) (Or.inl ⟨by rfl,?_⟩) ?_ ?_
     rotate_left
     ·intro w'
      go_simp
      with_reducible rfl
     rotate_left
     ·simp only[Act.put,List.setIfInBounds_toArray,List.set_cons_zero,List.set_cons_succ,i64_w,i32_w]
      rfl
     refine take_ (i:=16) (N:=some 70) (v:=?_) (a':=?_) #[true,true,true,true,true,true,true,true,false,false,false,true,true,true,true,true,true,false,false,false,false,false,false,false] rfl rfl (by kernel_rfl) (fun _ _ _ h=>h) (Or.inl ⟨by rfl,?_⟩) hHeld ?_ ?_
     rotate_left
     ·rintro w' ⟨s0,s1⟩
      go_simp
      with_reducible rfl
     rotate_left
     ·simp only[Act.put,List.setIfInBounds_toArray,List.set_cons_zero,List.set_cons_succ,i64_w,i32_w]
      rfl
     refine pure_ (i:=17) (N:=some 71) (v:=?_) (a':=?_) #[true,true,true,true,true,true,true,true,false,false,false,true,true,true,true,true,true,true,false,false,false,false,false,false] rfl rfl (by kernel_rfl) (fun _ _ _ h=>h) (Or.inl ⟨by rfl,?_⟩) ?_ ?_
     rotate_left
     ·intro w'
      go_simp
      with_reducible rfl
     rotate_left
     ·simp only[Act.put,List.setIfInBounds_toArray,List.set_cons_zero,List.set_cons_succ,i64_w,i32_w]
      rfl
     have HKd:=Aside0.mk (show TJ W (2*v) ml (.slice Av (2*v) cv) b cc X wr.drew∧RF2 W (2*v) b (.slice A9 xs.length c9) (.slice aJ ys.length c10) xs ys wr.drew∧BI W gp #[.slice A0 nk c0,.slice A1 nb c1] (.slice (some ad) nf aC) fl wr.drew from⟨HK.out.1.drew,HK.out.2.1.drew,HK.out.2.2.below (below_drew (Below.refl _ _))⟩)
     refine one_ (i:=8) (N:=some 62) #[true,true,true,true,true,true,true,true,true,false,false,true,true,true,true,true,true,true,false,false,false,false,false,false] rfl rfl (by kernel_rfl) (by decide) (fun K hK=>?_)
     refine goes_ Try.func106 (by kernel_rfl) rfl #[.int .i64 nx,.int .i64 1] (by rfl) rfl rfl (by(try simp only[List.map_toArray,List.map_cons,List.map_nil]);first|done|rfl) ?_
     refine(impl_fraction.calls kfx nx 1 nx 1 wr.drew HLX.out.2.2.2.2.1).mono ?_
     rintro e y1 ⟨rfl,hb⟩
     refine⟨_,rfl,?_⟩
     have aE:=Aside0.mk (show TJ W (2*v) ml (.slice Av (2*v) cv) b cc X y1∧RF2 W (2*v) b (.slice A9 xs.length c9) (.slice aJ ys.length c10) xs ys y1∧BI W gp #[.slice A0 nk c0,.slice A1 nb c1] (.slice (some ad) nf aC) fl y1 from⟨HKd.out.1.below hb,HKd.out.2.1.below hb,HKd.out.2.2.below hb⟩)
     clear hb
     refine hK.out _ _ (HSF.out _ aE.out.1.bw) (fun hHeld=>?_)
     clear hK K
     refine norm_ (a':=?_) ?_ ?_
     rotate_left
     ·show Act.put _ (some 62) _=_
      simp only[Act.put,List.setIfInBounds_toArray,List.set_cons_zero,List.set_cons_succ,i64_w,i32_w]
      rfl
     refine one_ (i:=9) (N:=some 63) #[true,true,true,true,true,true,true,true,true,true,false,true,true,true,true,true,true,true,false,false,false,false,false,false] rfl rfl (by kernel_rfl) (by decide) (fun K hK=>?_)
     refine value_ (w1:=?_) (v:=?_) (by rfl) rfl ?_ ?_
     rotate_left 2
     ·go_simp
      constructor
      ·rfl
      ·rfl
     refine hK.out _ _ (HSF.out _ (below_alloc aE.out.1.bw _)) (fun hHeld=>?_)
     clear hK K
     refine norm_ (a':=?_) ?_ ?_
     rotate_left
     ·show Act.put _ (some 63) _=_
      simp only[Act.put,List.setIfInBounds_toArray,List.set_cons_zero,List.set_cons_succ,i64_w,i32_w]
      rfl
     refine one_ (i:=10) (N:=some 64) #[true,true,true,true,true,true,true,true,true,true,true,true,true,true,true,true,true,true,false,false,false,false,false,false] rfl rfl (by kernel_rfl) (by decide) (fun K hK=>?_)
     refine Kd.R_append_step (Kd.raw 2) (w0:=W) W.heap.size (by rfl) (.tmp 55) (.tmp 63) 140 142 (.agg #[.int .i64 0,.int .i64 0]) 16 rfl Try.underlying140 infoFr rfl (by decide) (by omega) (.slice A9 xs.length c9) xs (frv nx) [.int .i64 nx,.int .i64 1] (fun _=>True) (fun _=>False) rfl (by first|rfl|(go_simp;done)) ?aP (fun _ hk=>hk.elim) (fun _ _=>trivial) ?aO ?aB ?aS ?aL ?_
     (case aP=>exact⟨rfl,rfl,by intro u hu;simp at hu;rcases hu with rfl|rfl <;> rfl⟩)
     (case aO=>exact aE.out.2.1.x)
     (case aB=>exact aE.out.1.bw)
     (case aS=>exact aE.out.1.bw.size)
     (case aL=>have:=HLEN.out;omega)
     intro vx y2 ho hb hg hat
     obtain⟨xA,xc,hv_⟩:=Kd.R_slice ho
     rw[show(xs ++ [frv nx]).length=ml from by have:=HLEN.out;have:=HN.out.2.2.2.2;simp;omega]at hv_
     subst hv_
     have aN:=Aside0.mk (show TJ W (2*v) ml (.slice Av (2*v) cv) b cc X y2∧RF2 W (2*v) b (.slice xA ml xc) (.slice aJ ys.length c10) (xs ++ [frv nx]) ys y2∧BI W gp #[.slice A0 nk c0,.slice A1 nb c1] (.slice (some ad) nf aC) fl y2 from⟨aE.out.1.grown aE.out.2.1.x (fun k hk=>(aE.out.2.1.ax k hk).2) hg hb,aE.out.2.1.growX aE.out.1.rows_lt ho hg hat,aE.out.2.2.grown aE.out.2.1.x (by decide) (by decide) hg⟩)
     clear ho hb hg hat
     refine hK.out _ _ (HSF.out _ aN.out.1.bw) (fun hHeld=>?_)
     clear hK K
     refine norm_ (a':=?_) ?_ ?_
     rotate_left
     ·show Act.put _ (some 64) _=_
      simp only[Act.put,List.setIfInBounds_toArray,List.set_cons_zero,List.set_cons_succ,i64_w,i32_w]
      rfl
     refine one_ (i:=18) (N:=some 72) #[true,true,true,true,true,true,true,true,true,true,true,true,true,true,true,true,true,true,true,false,false,false,false,false] rfl rfl (by kernel_rfl) (by decide) (fun K hK=>?_)
     refine goes_ Try.func106 (by kernel_rfl) rfl #[.int .i64 ny,.int .i64 1] (by rfl) rfl rfl (by(try simp only[List.map_toArray,List.map_cons,List.map_nil]);first|done|rfl) ?_
     refine(impl_fraction.calls kfy ny 1 ny 1 y2 HLX.out.2.2.2.2.2).mono ?_
     rintro e y3 ⟨rfl,hb⟩
     refine⟨_,rfl,?_⟩
     have aD:=Aside0.mk (show TJ W (2*v) ml (.slice Av (2*v) cv) b cc X y3∧RF2 W (2*v) b (.slice xA ml xc) (.slice aJ ys.length c10) (xs ++ [frv nx]) ys y3∧BI W gp #[.slice A0 nk c0,.slice A1 nb c1] (.slice (some ad) nf aC) fl y3 from⟨aN.out.1.below hb,aN.out.2.1.below hb,aN.out.2.2.below hb⟩)
     clear hb
     refine hK.out _ _ (HSF.out _ aD.out.1.bw) (fun hHeld=>?_)
     clear hK K
     refine norm_ (a':=?_) ?_ ?_
     rotate_left
     ·show Act.put _ (some 72) _=_
      simp only[Act.put,List.setIfInBounds_toArray,List.set_cons_zero,List.set_cons_succ,i64_w,i32_w]
      rfl
     refine one_ (i:=19) (N:=some 73) #[true,true,true,true,true,true,true,true,true,true,true,true,true,true,true,true,true,true,true,true,false,false,false,false] rfl rfl (by kernel_rfl) (by decide) (fun K hK=>?_)
     refine value_ (w1:=?_) (v:=?_) (by rfl) rfl ?_ ?_
     rotate_left 2
     ·go_simp
      constructor
      ·rfl
      ·rfl
     refine hK.out _ _ (HSF.out _ (below_alloc aD.out.1.bw _)) (fun hHeld=>?_)
     clear hK K
     refine norm_ (a':=?_) ?_ ?_
     rotate_left
     ·show Act.put _ (some 73) _=_
      simp only[Act.put,List.setIfInBounds_toArray,List.set_cons_zero,List.set_cons_succ,i64_w,i32_w]
      rfl
     refine one_ (i:=20) (N:=some 74) #[true,true,true,true,true,true,true,true,true,true,true,true,true,true,true,true,true,true,true,true,true,false,false,false] rfl rfl (by kernel_rfl) (by decide) (fun K hK=>?_)
     refine Kd.R_append_step (Kd.raw 2) (w0:=W) W.heap.size (by rfl) (.tmp 65) (.tmp 73) 140 142 (.agg #[.int .i64 0,.int .i64 0]) 16 rfl Try.underlying140 infoFr rfl (by decide) (by omega) (.slice aJ ys.length c10) ys (frv ny) [.int .i64 ny,.int .i64 1] (fun _=>True) (fun _=>False) rfl (by first|rfl|(go_simp;done)) ?aP (fun _ hk=>hk.elim) (fun _ _=>trivial) ?aO ?aB ?aS ?aL ?_
     (case aP=>exact⟨rfl,rfl,by intro u hu;simp at hu;rcases hu with rfl|rfl <;> rfl⟩)
     (case aO=>exact aD.out.2.1.y)
     (case aB=>exact aD.out.1.bw)
     (case aS=>exact aD.out.1.bw.size)
     (case aL=>have:=HLEN.out;omega)
     intro vy y4 ho hb hg hat
     obtain⟨yA,yc,hv_⟩:=Kd.R_slice ho
     rw[show(ys ++ [frv ny]).length=ml from by have:=HLEN.out;have:=HN.out.2.2.2.2;simp;omega]at hv_
     subst hv_
     have aA:=Aside0.mk (show TJ W (2*v) ml (.slice Av (2*v) cv) b cc X y4∧RF2 W (2*v) b (.slice xA ml xc) (.slice yA ml yc) (xs ++ [frv nx]) (ys ++ [frv ny]) y4∧BI W gp #[.slice A0 nk c0,.slice A1 nb c1] (.slice (some ad) nf aC) fl y4 from⟨aD.out.1.grown aD.out.2.1.y aD.out.2.1.ay hg hb,aD.out.2.1.growY aD.out.1.rows_lt ho hg hat,aD.out.2.2.grown aD.out.2.1.y (by decide) (by decide) hg⟩)
     clear ho hb hg hat
     refine hK.out _ _ (HSF.out _ aA.out.1.bw) (fun hHeld=>?_)
     clear hK K
     refine norm_ (a':=?_) ?_ ?_
     rotate_left
     ·show Act.put _ (some 74) _=_
      simp only[Act.put,List.setIfInBounds_toArray,List.set_cons_zero,List.set_cons_succ,i64_w,i32_w]
      rfl
     refine one_ (i:=21) (N:=some 75) #[true,true,true,true,true,true,true,true,true,true,true,true,true,true,true,true,true,true,true,true,true,true,false,false] rfl rfl (by kernel_rfl) (by decide) (fun K hK=>?_)
     refine value_ (w1:=?_) (v:=?_) (by rfl) rfl ?_ ?_
     rotate_left 2
     ·go_simp
      constructor
      ·rfl
      ·rfl
     refine hK.out _ _ (HSF.out _ (below_alloc aA.out.1.bw _)) (fun hHeld=>?_)
     clear hK K
     refine norm_ (a':=?_) ?_ ?_
     rotate_left
     ·show Act.put _ (some 75) _=_
      simp only[Act.put,List.setIfInBounds_toArray,List.set_cons_zero,List.set_cons_succ,i64_w,i32_w]
      rfl
     refine one_ (i:=22) (N:=some 76) #[true,true,true,true,true,true,true,true,true,true,true,true,true,true,true,true,true,true,true,true,true,true,true,false] rfl rfl (by kernel_rfl) (by decide) (fun K hK=>?_)
     have bG:=lit_R (Kd.raw 1) y4 140 W.heap.size (xs:=[[(.slice xA ml xc)],[(.slice yA ml yc)]]) (inner:=[(.slice xA ml xc),(.slice yA ml yc)]) (fun w b ok=>(((Reps.none _ _).snoc (c:=[(.slice xA ml xc)]) ⟨rfl,rfl,fun u hu=>by rw[List.mem_singleton.1 hu];rfl⟩ rfl).snoc (c:=[(.slice yA ml yc)]) ⟨rfl,rfl,fun u hu=>by rw[List.mem_singleton.1 hu];rfl⟩ rfl)) aA.out.1.bw.size (by simp)
     refine Kd.R_append_rows_step (Kd.raw 1) (Rr:=(Kd.raw 1).K (y4.alloc (.cells #[(.slice xA ml xc),(.slice yA ml yc)] 140))) (w0:=W) W.heap.size (by rfl) (.tmp 54) (.tmp 75) 130 140 (.slice none 0 0) 24 rfl Try.underlying130 infoFS rfl (by decide) (by omega) (.slice Av (2*v) cv) ((List.range (2*v)).map fun i=>[Value.slice (some ⟨b i,0,none⟩) ml (cc i)]) [[(.slice xA ml xc)],[(.slice yA ml yc)]] _ 2 2 (fun _=>True) (fun _=>False) rfl (by first|rfl|(go_simp;done)) ?aO ?aR (fun _ _ h=>h) (fun _ hk=>hk.elim) (fun _ _=>trivial) ?aB ?aS ?aL ?_
     (case aO=>exact Kd.R_alloc aA.out.1.hd _)
     (case aR=>exact(Kd.R_reads' bG).2.2)
     (case aB=>exact below_alloc aA.out.1.bw _)
     (case aS=>rw[size_alloc];have:=aA.out.1.bw.size;omega)
     (case aL=>have:=C2.out;have:=HF.out;simp;omega)
     clear bG
     intro vB y5 ho hb hg _
     have aK:=Aside0.mk (And.intro ho (And.intro hb hg))
     clear ho hb hg
     refine hK.out _ _ (HSF.out _ aK.out.2.1) (fun hHeld=>?_)
     clear hK K
     refine norm_ (a':=?_) ?_ ?_
     rotate_left
     ·show Act.put _ (some 76) _=_
      simp only[Act.put,List.setIfInBounds_toArray,List.set_cons_zero,List.set_cons_succ,i64_w,i32_w]
      rfl
     refine pure_ (i:=23) (N:=some 7) (v:=?_) (a':=?_) #[true,true,true,true,true,true,true,true,true,true,true,true,true,true,true,true,true,true,true,true,true,true,true,true] rfl rfl (by kernel_rfl) (fun _ _ _ h=>h) (Or.inl ⟨by rfl,?_⟩) ?_ ?_
     rotate_left
     ·intro w'
      go_simp
      with_reducible rfl
     rotate_left
     ·simp only[Act.put,List.setIfInBounds_toArray,List.set_cons_zero,List.set_cons_succ,i64_w,i32_w]
      rfl
     refine done_ (by kernel_rfl) ?_
     have hx_:=Kd.R_alloc aA.out.2.1.x (.cells #[.slice xA ml xc,.slice yA ml yc] 140 (0,0))
     have hy_:=Kd.R_alloc aA.out.2.1.y (.cells #[.slice xA ml xc,.slice yA ml yc] 140 (0,0))
     have q1:=Qr_one (tblM ks bs ld bars)
     have hti:=tblM_at (bs:=bs) (ld:=ld) (bars:=bars) HKV.out.1
     rw[← HKX.out,← HN.out.1]at hti
     have hpush:=(aA.out.1.alloc (.cells #[.slice xA ml xc,.slice yA ml yc] 140 (0,0))).push hx_ hy_ (by have:=HLEN.out;have:=HN.out.2.2.2.2;simp;omega) (by have:=HLEN.out;have:=HN.out.2.2.2.2;simp;omega) (by have:=HN.out.2.2.2.2;omega) aA.out.2.1.ax aA.out.2.1.ay
      (x:=FT (Qr (tblM ks bs ld bars) 1) (2*v)) (y:=FT (Qr (tblM ks bs ld bars) 1) (2*v+1))
      (fun j' hj'=>by
       rw[HY.out.1,C4.out,rowv_at _ _ _ _ (by have:=HN.out.2.2.2.2;omega),FT_num,FT_den,(q1 _ _).1,(q1 _ _).2,(hti j').1,HLX.out.2.2.1,HLX.out.1];split <;> rfl)
      (fun j' hj'=>by
       rw[HY.out.2,C4.out,rowv_at _ _ _ _ (by have:=HN.out.2.2.2.2;omega),FT_num,FT_den,(q1 _ _).1,(q1 _ _).2,(hti j').2,HLX.out.2.2.2.1,HLX.out.2.1];split <;> rfl)
      aK.out.1 aK.out.2.1 aK.out.2.2
     obtain⟨b1,b2,hTJ⟩:=hpush
     have aZ:=Aside0.mk (And.intro hTJ ((aA.out.2.2.below (below_alloc (Below.refl _ _) (.cells #[.slice xA ml xc,.slice yA ml yc] 140 (0,0)))).grown (aA.out.1.alloc (.cells #[.slice xA ml xc,.slice yA ml yc] 140 (0,0))).hd (by decide) (by decide) aK.out.2.2))
     clear hTJ hx_ hy_ q1 hti aK aA aD aN aE HKd HSF HK
     go_wp2_with (fail)
     go_roundg gq
     case measure=>omega
     case rel=>
      have h1:=HA.out;have h2:=C2.out;have h3:=HF.out
      have hw:=wrap_id (vi+1) (by omega) (by omega)
      refine⟨v+1,vi+1,_,_,_,by rw[hw],⟨by omega,by omega,by omega⟩,⟨by rw[show 2*(v+1)=2*v+1+1 by omega];exact aZ.out.1,aZ.out.2⟩,⟨fun i j' hi hj=>?_⟩⟩
      by_cases e1:i=2*v+1
      ·subst e1;rw[upd_same]
      ·rw[upd_ne _ _ e1]
       by_cases e2:i=2*v
       ·subst e2;rw[upd_same]
       ·rw[upd_ne _ _ e2];exact HX.out i j' (by omega) hj
  ·have HVN:=Aside0.mk (show v=nf from by have:=HA.out;omega)
   have d1:decide (vi<(nf:Int))=false:=decide_eq_false (by have:=HA.out;have:=HVN.out;omega)
   clear c2
   go_wp2_with (fail)
   go_ret
   have hcap:=(Kd.R_reads' HI.out.1.hd).2.1
   obtain⟨g,A,cap,hv,hA,hTB⟩:=HI.out.1.tb
   injection hv with e1 _ e3
   subst e1 e3
   have hfr:=HF.out.2.2.1
   have hN:=HN.out
   rw[HVN.out,hfr]at hA hTB ⊢
   rw[hN.2.2.2.2,hN.1]at hTB
   refine⟨g,_,_,b,cc,rfl,hA,⟨hTB.hd,fun i hi=>?_,hTB.inj,hTB.ne,hTB.bg,hTB.bb⟩,HI.out.1.bw,by have h1:=HVN.out;have h2:=HF.out.2.2.1;first|omega|(simp at hcap;omega)|(rw[← h2,← h1];simpa using hcap)⟩
   obtain⟨cs,h1,h2⟩:=hTB.rw i hi
   exact⟨cs,h1,fun j hj=>by rw[h2 j hj,HX.out i j (by rw[HVN.out,hfr];exact hi) (by rw[hN.2.2.2.2,hN.1];exact hj)]⟩
end
/-! ### impl_mulFractions: function 107 -/
def impl_mulFractions.f (k:Nat) (aF:Int) (aE:Int) (aD:Int) (aC:Int):Option (Int×Int):=(impl_fraction.f k aF aC).bind fun aA=>((impl_fraction.f k aD aE).bind fun aB=>(some (wrap64 (aA.1*aB.1),wrap64 (aA.2*aB.2))))
theorem impl_mulFractions.mono: ∀a0 a1 a2 a3 k,LeO (impl_mulFractions.f k a0 a1 a2 a3) (impl_mulFractions.f (k+1) a0 a1 a2 a3):=by
 intro a0 a1 a2 a3 k
 unfold impl_mulFractions.f
 repeat' first
  |(with_reducible exact impl_fraction.mono _ _ _)
  |(with_reducible exact LeO.refl _)
  |(with_reducible exact LeO.none _)
  |(with_reducible refine LeO.ite ?_ ?_)
  |(with_reducible refine LeO.bind ?_ (fun _=>?_))
  |exact LeO.none _
  |refine LeO.ite ?_ ?_
  |refine LeO.bind ?_ (fun _=>?_)
set_option maxHeartbeats 8000000 in
set_option maxRecDepth 100000 in
theorem impl_mulFractions.calls (k:Nat) (aT:Int) (aQ:Int) (aR:Int) (aS:Int) (r1:Int) (r2:Int) (w:World) (h:impl_mulFractions.f k aT aQ aR aS=some (r1,r2)):
 Calls Try.prog 107 #[.agg #[.int .i64 aT,.int .i64 aQ],.agg #[.int .i64 aR,.int .i64 aS]] w fun e w'=>e= .returned (.agg #[.int .i64 r1,.int .i64 r2])∧Below w.heap.size w w':=by
 have dS:=Try.underlying142;have HB:=A' (Below.refl w.heap.size w);have H:((impl_fraction.f k aT aS).bind fun bQ=>((impl_fraction.f k aR aQ).bind fun aV=>(some (wrap64 (bQ.1*aV.1),wrap64 (bQ.2*aV.2)))))=some (r1,r2):=h;clear h;replace H:=Option.bind_eq_some_iff.mp H;obtain⟨⟨aW,bA⟩,dY,H⟩:=H;replace H:((impl_fraction.f k aR aQ).bind fun aV=>(some (wrap64 (aW*aV.1),wrap64 (bA*aV.2))))=some (r1,r2):=H;have A3:=A' dY;clear dY;replace H:=Option.bind_eq_some_iff.mp H;obtain⟨⟨bP,bR⟩,dQ,H⟩:=H;replace H:(some (wrap64 (aW*bP),wrap64 (bA*bR)))=some (r1,r2):=H;have A4:=A' dQ;clear dQ;simp only[Option.some.injEq,Prod.mk.injEq]at H;obtain⟨rfl,rfl⟩:=H;go_enter Try.func107,Try.ntmps107;go_wp2_with (first|((with_reducible refine gate_dst (N:=2) rfl ?_);refine box_event ?hg (N:=2) ?hd (cs:=#[.int .i64 aT,.int .i64 aQ]) (t:=142) ?hr ?_;(case hd=>rfl);(case hg=>rfl);(case hr=>first|(go_simp;done)|(go_simp;rfl));intro aB hg w5 hbox hb;have n0_:=A' (W' (qK0 HB.out) hb);have n1_:=A' (hbox);have n2_:=A' ((by rw[hg];exact(V' (qK0 HB.out)):w.heap.size≤aB));have n3_:=A' ((by rw[hg];exact(V' (qK0 HB.out)):w.heap.size≤aB));clear HB;have HB:=n0_;have aA:=n1_;have dF:=n2_;have aI:=n3_;clear n0_ n1_ n2_ n3_;clear hb hbox hg)|((with_reducible refine gate_dst (N:=3) rfl ?_);refine box_event ?hg (N:=3) ?hd (cs:=#[.int .i64 aR,.int .i64 aS]) (t:=142) ?hr ?_;(case hd=>rfl);(case hg=>rfl);(case hr=>first|(go_simp;done)|(go_simp;rfl));intro aD hg w6 hbox hb;have n0_:=A' (O' (g:=aB) (qB aA.out) hb);have n1_:=A' (W' (qK1 HB.out aI.out) hb);have n2_:=A' (hbox);have n3_:=A' ((by rw[hg];exact(V' (qK1 HB.out aI.out)):w.heap.size≤aD));have n4_:=A' ((by rw[hg];exact(V' (qK1 HB.out aI.out)):w.heap.size≤aD));have n5_:=A' ((by rw[hg];exact Nat.ne_of_lt (bL' (g:=aB) (qB aA.out)):aB≠aD));have n6_:=A' ((by rw[hg];exact Nat.ne_of_gt (bL' (g:=aB) (qB aA.out)):aD≠aB));clear aA;clear HB;have aA:=n0_;have HB:=n1_;have aC:=n2_;have dB:=n3_;have aJ:=n4_;have aY:=n5_;have bO:=n6_;clear n0_ n1_ n2_ n3_ n4_ n5_ n6_;clear hb hbox hg)|((with_reducible refine gate_dst (N:=4) rfl ?_);refine box_event ?hg (N:=4) ?hd (cs:=#[.int .i64 0,.int .i64 0]) (t:=142) ?hr ?_;(case hd=>rfl);(case hg=>rfl);(case hr=>first|(go_simp;done)|(go_simp;rfl));intro aE hg w7 hbox hb;have n0_:=A' (O' (g:=aB) (qB aA.out) hb);have n1_:=A' (O' (g:=aD) (qB aC.out) hb);have n2_:=A' (W' (qK2 HB.out aI.out aJ.out) hb);have n3_:=A' (hbox);have n4_:=A' ((by rw[hg];exact(V' (qK2 HB.out aI.out aJ.out)):w.heap.size≤aE));have n5_:=A' ((by rw[hg];exact(V' (qK2 HB.out aI.out aJ.out)):w.heap.size≤aE));have n6_:=A' ((by rw[hg];exact Nat.ne_of_lt (bL' (g:=aB) (qB aA.out)):aB≠aE));have n7_:=A' ((by rw[hg];exact Nat.ne_of_gt (bL' (g:=aB) (qB aA.out)):aE≠aB));have n8_:=A' ((by rw[hg];exact Nat.ne_of_lt (bL' (g:=aD) (qB aC.out)):aD≠aE));have n9_:=A' ((by rw[hg];exact Nat.ne_of_gt (bL' (g:=aD) (qB aC.out)):aE≠aD));clear aA;clear aC;clear HB;have aA:=n0_;have aC:=n1_;have HB:=n2_;have aF:=n3_;have dM:=n4_;have aL:=n5_;have bI:=n6_;have bJ:=n7_;have bK:=n8_;have bG:=n9_;clear n0_ n1_ n2_ n3_ n4_ n5_ n6_ n7_ n8_ n9_;clear hb hbox hg;have eA:=aY.out;have dZ:=bO.out;have eC:=bI.out;have eB:=bJ.out;have bY:w7.cell? ⟨aB,0,none⟩=some (.int .i64 aT):=(N' aA.out 0).trans rfl;have cV:w7.cell? ⟨aB,1,none⟩=some (.int .i64 aQ):=(N' aA.out 1).trans rfl;have cQ:=Y' aA.out 0;have dA:=Y' aA.out 1;have dV:=bK.out;have dK:=bG.out;have cZ:w7.cell? ⟨aD,0,none⟩=some (.int .i64 aR):=(N' aC.out 0).trans rfl;have cJ:w7.cell? ⟨aD,1,none⟩=some (.int .i64 aS):=(N' aC.out 1).trans rfl;have cI:=Y' aC.out 0;have cH:=Y' aC.out 1)|((with_reducible refine gate_callee (f:=106) rfl ?_);refine goesL_ (some 11) rfl rfl Try.func106 (by kernel_rfl) rfl #[.int .i64 aT,.int .i64 aS] rfl (by(try simp only[List.map_toArray,List.map_cons,List.map_nil]);first|done|rfl|(simp only[List.length_drop,List.length_take];rfl)) ?_;(with_reducible refine(impl_fraction.calls k aT aS aW bA _ A3.out).mono ?_);rintro e eD ⟨rfl,hb⟩;refine⟨_,rfl,?_⟩;replace aA:=A' (O' (g:=aB) (qB aA.out) hb);replace aC:=A' (O' (g:=aD) (qB aC.out) hb);replace aF:=A' (O' (g:=aE) (qB aF.out) hb);replace HB:=A' (W' (qK3 HB.out aI.out aJ.out aL.out) hb);(try clear hb);(try clear hb2);(try clear hk);(try clear hi))|((with_reducible refine gate_dst (N:=5) rfl ?_);refine box_event ?hg (N:=5) ?hd (cs:=#[.int .i64 0,.int .i64 0]) (t:=142) ?hr ?_;(case hd=>rfl);(case hg=>rfl);(case hr=>first|(go_simp;done)|(go_simp;rfl));intro aG hg bS hbox hb;have n0_:=A' (O' (g:=aB) (qB aA.out) hb);have n1_:=A' (O' (g:=aD) (qB aC.out) hb);have n2_:=A' (O' (g:=aE) (qB aF.out) hb);have n3_:=A' (W' (qK3 HB.out aI.out aJ.out aL.out) hb);have n4_:=A' (hbox);have n5_:=A' ((by rw[hg];exact(V' (qK3 HB.out aI.out aJ.out aL.out)):w.heap.size≤aG));have n6_:=A' ((by rw[hg];exact(V' (qK3 HB.out aI.out aJ.out aL.out)):w.heap.size≤aG));have n7_:=A' ((by rw[hg];exact Nat.ne_of_lt (bL' (g:=aB) (qB aA.out)):aB≠aG));have n8_:=A' ((by rw[hg];exact Nat.ne_of_gt (bL' (g:=aB) (qB aA.out)):aG≠aB));have n9_:=A' ((by rw[hg];exact Nat.ne_of_lt (bL' (g:=aD) (qB aC.out)):aD≠aG));have n10_:=A' ((by rw[hg];exact Nat.ne_of_gt (bL' (g:=aD) (qB aC.out)):aG≠aD));have n11_:=A' ((by rw[hg];exact Nat.ne_of_lt (bL' (g:=aE) (qB aF.out)):aE≠aG));have n12_:=A' ((by rw[hg];exact Nat.ne_of_gt (bL' (g:=aE) (qB aF.out)):aG≠aE));clear aA;clear aC;clear aF;clear HB;have aA:=n0_;have aC:=n1_;have aF:=n2_;have HB:=n3_;have aH:=n4_;have dC:=n5_;have aU:=n6_;have aN:=n7_;have aZ:=n8_;have aO:=n9_;have bM:=n10_;have aM:=n11_;have bE:=n12_;clear n0_ n1_ n2_ n3_ n4_ n5_ n6_ n7_ n8_ n9_ n10_ n11_ n12_;clear hb hbox hg;have dD:=aZ.out;have dE:=aN.out;have dT:=bM.out;have dG:=aO.out;have dO:=bE.out;have dH:=aM.out;have cM:bS.cell? ⟨aG,0,none⟩=some (.int .i64 0):=(N' aH.out 0).trans rfl;have cU:bS.cell? ⟨aG,1,none⟩=some (.int .i64 0):=(N' aH.out 1).trans rfl;have cS:=Y' aH.out 0;have cW:=Y' aH.out 1;have cB:bS.cell? ⟨aD,0,none⟩=some (.int .i64 aR):=(N' aC.out 0).trans rfl;have cG:bS.cell? ⟨aD,1,none⟩=some (.int .i64 aS):=(N' aC.out 1).trans rfl;have cR:=Y' aC.out 0;have bZ:=Y' aC.out 1;have cP:bS.cell? ⟨aB,0,none⟩=some (.int .i64 aT):=(N' aA.out 0).trans rfl;have bW:bS.cell? ⟨aB,1,none⟩=some (.int .i64 aQ):=(N' aA.out 1).trans rfl;have cA:=Y' aA.out 0;have cF:=Y' aA.out 1)|((with_reducible refine gate_callee (f:=106) rfl ?_);refine goesL_ (some 16) rfl rfl Try.func106 (by kernel_rfl) rfl #[.int .i64 aR,.int .i64 aQ] rfl (by(try simp only[List.map_toArray,List.map_cons,List.map_nil]);first|done|rfl|(simp only[List.length_drop,List.length_take];rfl)) ?_;(with_reducible refine(impl_fraction.calls k aR aQ bP bR _ A4.out).mono ?_);rintro e eE ⟨rfl,hb⟩;refine⟨_,rfl,?_⟩;have n0_:=A' (O' (g:=aB) (o:=.cells #[.int .i64 aT,.int .i64 aQ] 142 (0,0)) (qG2 aA.out aN.out aN.out) hb);have n1_:=A' (O' (g:=aD) (o:=.cells #[.int .i64 aR,.int .i64 aS] 142 (0,0)) (qG2 aC.out aO.out aO.out) hb);have n2_:=A' (O' (g:=aE) (o:=.cells #[.int .i64 0,.int .i64 0] 142 (0,0)) (qG2 aF.out aM.out aM.out) hb);have n3_:=A' (O' (g:=aG) (o:=.cells #[.int .i64 aW,.int .i64 bA] 142 (0,0)) (by(with_reducible repeat(first|refine G' ?_ _|refine I' ?_|refine hA' ?_ _));refine blk_put (cs:=#[.int .i64 aW,.int .i64 0]) ?_ 1 _ rfl;(with_reducible repeat(first|refine G' ?_ _|refine I' ?_|refine hA' ?_ _));refine blk_put (cs:=#[.int .i64 0,.int .i64 0]) ?_ 0 _ rfl;(with_reducible repeat(first|refine G' ?_ _|refine I' ?_|refine hA' ?_ _));exact aH.out) hb);have n4_:=A' (W' (qK4 HB.out aI.out aJ.out aL.out aU.out) hb);clear aA;clear aC;clear aF;clear aH;clear HB;have aA:=n0_;have aC:=n1_;have aF:=n2_;have aH:=n3_;have HB:=n4_;clear n0_ n1_ n2_ n3_ n4_;(try clear hb);(try clear hb2);(try clear hk);(try clear hi))|((with_reducible refine gate_dst (N:=6) rfl ?_);refine box_event ?hg (N:=6) ?hd (cs:=#[.int .i64 0,.int .i64 0]) (t:=142) ?hr ?_;(case hd=>rfl);(case hg=>rfl);(case hr=>first|(go_simp;done)|(go_simp;rfl));intro aK hg bT hbox hb;have n0_:=A' (O' (g:=aB) (qB aA.out) hb);have n1_:=A' (O' (g:=aD) (qB aC.out) hb);have n2_:=A' (O' (g:=aE) (qB aF.out) hb);have n3_:=A' (O' (g:=aG) (qB aH.out) hb);have n4_:=A' (W' (qK4 HB.out aI.out aJ.out aL.out aU.out) hb);have n5_:=A' (hbox);have n6_:=A' ((by rw[hg];exact(V' (qK4 HB.out aI.out aJ.out aL.out aU.out)):w.heap.size≤aK));have n7_:=A' ((by rw[hg];exact(V' (qK4 HB.out aI.out aJ.out aL.out aU.out)):w.heap.size≤aK));have n8_:=A' ((by rw[hg];exact Nat.ne_of_lt (bL' (g:=aB) (qB aA.out)):aB≠aK));have n9_:=A' ((by rw[hg];exact Nat.ne_of_gt (bL' (g:=aB) (qB aA.out)):aK≠aB));have n10_:=A' ((by rw[hg];exact Nat.ne_of_lt (bL' (g:=aD) (qB aC.out)):aD≠aK));have n11_:=A' ((by rw[hg];exact Nat.ne_of_gt (bL' (g:=aD) (qB aC.out)):aK≠aD));have n12_:=A' ((by rw[hg];exact Nat.ne_of_lt (bL' (g:=aE) (qB aF.out)):aE≠aK));have n13_:=A' ((by rw[hg];exact Nat.ne_of_gt (bL' (g:=aE) (qB aF.out)):aK≠aE));have n14_:=A' ((by rw[hg];exact Nat.ne_of_lt (bL' (g:=aG) (qB aH.out)):aG≠aK));have n15_:=A' ((by rw[hg];exact Nat.ne_of_gt (bL' (g:=aG) (qB aH.out)):aK≠aG));clear aA;clear aC;clear aF;clear aH;clear HB;have aA:=n0_;have aC:=n1_;have aF:=n2_;have aH:=n3_;have HB:=n4_;have aX:=n5_;have dI:=n6_;have bU:=n7_;have bN:=n8_;have bH:=n9_;have bB:=n10_;have bC:=n11_;have aP:=n12_;have bL:=n13_;have bF:=n14_;have bD:=n15_;clear n0_ n1_ n2_ n3_ n4_ n5_ n6_ n7_ n8_ n9_ n10_ n11_ n12_ n13_ n14_ n15_;clear hb hbox hg;have dN:=bH.out;have dL:=bN.out;have dW:=bC.out;have dX:=bB.out;have dP:=bL.out;have dR:=aP.out;have dU:=bD.out;have dJ:=bF.out;have cD:bT.cell? ⟨aK,0,none⟩=some (.int .i64 0):=(N' aX.out 0).trans rfl;have cK:bT.cell? ⟨aK,1,none⟩=some (.int .i64 0):=(N' aX.out 1).trans rfl;have bX:=Y' aX.out 0;have cC:=Y' aX.out 1;have cT:bT.cell? ⟨aG,0,none⟩=some (.int .i64 aW):=(N' aH.out 0).trans rfl;have cY:bT.cell? ⟨aG,1,none⟩=some (.int .i64 bA):=(N' aH.out 1).trans rfl;have cO:=Y' aH.out 0;have cE:=Y' aH.out 1;have cL:bT.cell? ⟨aE,0,none⟩=some (.int .i64 0):=(N' aF.out 0).trans rfl;have cX:bT.cell? ⟨aE,1,none⟩=some (.int .i64 0):=(N' aF.out 1).trans rfl;have bV:=Y' aF.out 0;have cN:=Y' aF.out 1));refine bodyPost_ret (results_cell_row rfl _ _ aE 142 #[.int .i64 (wrap64 (aW*bP)),.int .i64 (wrap64 (bA*bR))] (0,0) _ rfl (by(with_reducible repeat(first|refine G' ?_ _|refine I' ?_|refine hA' ?_ _));refine blk_put (cs:=#[.int .i64 (wrap64 (aW*bP)),.int .i64 0]) ?_ 1 _ rfl;(with_reducible repeat(first|refine G' ?_ _|refine I' ?_|refine hA' ?_ _));refine blk_put (cs:=#[.int .i64 0,.int .i64 0]) ?_ 0 _ rfl;(with_reducible repeat(first|refine G' ?_ _|refine I' ?_|refine hA' ?_ _));refine bF' ?_ aP.out _;(with_reducible repeat(first|refine G' ?_ _|refine I' ?_|refine hA' ?_ _));refine bF' ?_ aP.out _;(with_reducible repeat(first|refine G' ?_ _|refine I' ?_|refine hA' ?_ _));exact aF.out) Try.underlying142 rfl (by kernel_rfl)) rfl ?_;exact⟨qE,qK5 HB.out aI.out aJ.out aL.out aU.out bU.out⟩
/-! ### impl_addFractions: function 108 -/
def impl_addFractions.f (k:Nat) (aF:Int) (aD:Int) (aE:Int) (aC:Int):Option (Int×Int):=(impl_gcd.f k aD aC).bind fun aA=>(if aA=0 then(none)else((impl_fraction.f k (wrap64 ((wrap64 (aF*(wrap64 (Int.tdiv aC aA))))+(wrap64 (aE*(wrap64 (Int.tdiv aD aA)))))) (wrap64 ((wrap64 (Int.tdiv aD aA))*aC))).bind fun aB=>(some (aB.1,aB.2))))
theorem impl_addFractions.mono: ∀a0 a1 a2 a3 k,LeO (impl_addFractions.f k a0 a1 a2 a3) (impl_addFractions.f (k+1) a0 a1 a2 a3):=by
 intro a0 a1 a2 a3 k
 unfold impl_addFractions.f
 repeat' first
  |(with_reducible exact impl_fraction.mono _ _ _)
  |(with_reducible exact impl_gcd.mono _ _ _)
  |(with_reducible exact LeO.refl _)
  |(with_reducible exact LeO.none _)
  |(with_reducible refine LeO.ite ?_ ?_)
  |(with_reducible refine LeO.bind ?_ (fun _=>?_))
  |exact LeO.none _
  |refine LeO.ite ?_ ?_
  |refine LeO.bind ?_ (fun _=>?_)
def impl_addFractions.T2:Bool×List (List Nat×List Nat):=(true,[([],[]),([0],[0]),([],[]),([2],[2]),([],[]),([3,4],[3,4]),([1,5],[1,5]),([],[]),([7],[7]),([],[]),([9],[9]),([],[]),([10,11],[10,11]),([8,12],[8,12]),([6,13],[6,13]),([],[]),([15],[15]),([],[]),([16,17],[16,17]),([],[]),([19],[19]),([18,20],[18,20]),([14,21],[14,21]),([22,22,0,1,2,3,4,5,6,7,8,9,10,11,12,13,14,15,16,17,18,19,20,21,22],[22])])
def impl_addFractions.B2:List Nat:=[0,1,0,4,0,28,63,0,128,0,512,0,3584,8064,16383,0,32768,0,229376,0,524288,2064384,4194303,8388607]
theorem impl_addFractions.tab2:rtab .any (opsOf Try.f108 2)=impl_addFractions.T2:=by kernel_rfl
theorem impl_addFractions.bits2:waitsOk impl_addFractions.T2.2 impl_addFractions.B2=true:=by kernel_rfl
set_option maxHeartbeats 8000000 in
set_option maxRecDepth 100000 in
theorem impl_addFractions.calls (k:Nat) (aO:Int) (aJ:Int) (aP:Int) (aK:Int) (r1:Int) (r2:Int) (w:World) (h:impl_addFractions.f k aO aJ aP aK=some (r1,r2)):
 Calls Try.prog 108 #[.agg #[.int .i64 aO,.int .i64 aJ],.agg #[.int .i64 aP,.int .i64 aK]] w fun e w'=>e= .returned (.agg #[.int .i64 r1,.int .i64 r2])∧Below w.heap.size w w':=by
 have bS:=Try.underlying142;have HB:=A' (Below.refl w.heap.size w);have H:((impl_gcd.f k aJ aK).bind fun aI=>(if aI=0 then(none)else((impl_fraction.f k (wrap64 ((wrap64 (aO*(wrap64 (Int.tdiv aK aI))))+(wrap64 (aP*(wrap64 (Int.tdiv aJ aI)))))) (wrap64 ((wrap64 (Int.tdiv aJ aI))*aK))).bind fun aR=>(some (aR.1,aR.2)))))=some (r1,r2):=h;clear h;replace H:=Option.bind_eq_some_iff.mp H;obtain⟨aI,bZ,H⟩:=H;replace H:(if aI=0 then(none)else((impl_fraction.f k (wrap64 ((wrap64 (aO*(wrap64 (Int.tdiv aK aI))))+(wrap64 (aP*(wrap64 (Int.tdiv aJ aI)))))) (wrap64 ((wrap64 (Int.tdiv aJ aI))*aK))).bind fun aR=>(some (aR.1,aR.2))))=some (r1,r2):=H;have A3:=A' bZ;clear bZ
 by_cases c4:aI=0
 ·rw[if_pos c4]at H;exact absurd H (by simp)
 ·rw[if_neg c4]at H;have c4b0:(aI == 0)=false:=beq_eq_false_iff_ne.mpr c4;have c4b1:(aI != 0)=true:=bne_iff_ne.mpr c4;replace H:=Option.bind_eq_some_iff.mp H;obtain⟨⟨aV,aW⟩,bV,H⟩:=H;replace H:(some (aV,aW))=some (r1,r2):=H;have A5:=A' bV;clear bV;simp only[Option.some.injEq,Prod.mk.injEq]at H;obtain⟨rfl,rfl⟩:=H;go_enter Try.func108,Try.ntmps108;try go_wp2_with (first|((with_reducible refine gate_dst (N:=2) rfl ?_);refine box_event ?hg (N:=2) ?hd (cs:=#[.int .i64 aO,.int .i64 aJ]) (t:=142) ?hr ?_;(case hd=>rfl);(case hg=>rfl);(case hr=>first|(go_simp;done)|(go_simp;rfl));intro aD hg w6 hbox hb;have n0_:=A' (W' (qK0 HB.out) hb);have n1_:=A' (hbox);have n2_:=A' ((by rw[hg];exact(V' (qK0 HB.out)):w.heap.size≤aD));have n3_:=A' ((by rw[hg];exact(V' (qK0 HB.out)):w.heap.size≤aD));clear HB;have HB:=n0_;have aA:=n1_;have bR:=n2_;have aL:=n3_;clear n0_ n1_ n2_ n3_;clear hb hbox hg)|((with_reducible refine gate_dst (N:=3) rfl ?_);refine box_event ?hg (N:=3) ?hd (cs:=#[.int .i64 aP,.int .i64 aK]) (t:=142) ?hr ?_;(case hd=>rfl);(case hg=>rfl);(case hr=>first|(go_simp;done)|(go_simp;rfl));intro aG hg w7 hbox hb;have n0_:=A' (O' (g:=aD) (qB aA.out) hb);have n1_:=A' (W' (qK1 HB.out aL.out) hb);have n2_:=A' (hbox);have n3_:=A' ((by rw[hg];exact(V' (qK1 HB.out aL.out)):w.heap.size≤aG));have n4_:=A' ((by rw[hg];exact(V' (qK1 HB.out aL.out)):w.heap.size≤aG));have n5_:=A' ((by rw[hg];exact Nat.ne_of_lt (bL' (g:=aD) (qB aA.out)):aD≠aG));have n6_:=A' ((by rw[hg];exact Nat.ne_of_gt (bL' (g:=aD) (qB aA.out)):aG≠aD));clear aA;clear HB;have aA:=n0_;have HB:=n1_;have aB:=n2_;have bP:=n3_;have aQ:=n4_;have aS:=n5_;have aT:=n6_;clear n0_ n1_ n2_ n3_ n4_ n5_ n6_;clear hb hbox hg)|((with_reducible refine gate_dst (N:=4) rfl ?_);refine box_event ?hg (N:=4) ?hd (cs:=#[.int .i64 0,.int .i64 0]) (t:=142) ?hr ?_;(case hd=>rfl);(case hg=>rfl);(case hr=>first|(go_simp;done)|(go_simp;rfl));intro aC hg w8 hbox hb;have n0_:=A' (O' (g:=aD) (qB aA.out) hb);have n1_:=A' (O' (g:=aG) (qB aB.out) hb);have n2_:=A' (W' (qK2 HB.out aL.out aQ.out) hb);have n3_:=A' (hbox);have n4_:=A' ((by rw[hg];exact(V' (qK2 HB.out aL.out aQ.out)):w.heap.size≤aC));have n5_:=A' ((by rw[hg];exact(V' (qK2 HB.out aL.out aQ.out)):w.heap.size≤aC));have n6_:=A' ((by rw[hg];exact Nat.ne_of_lt (bL' (g:=aD) (qB aA.out)):aD≠aC));have n7_:=A' ((by rw[hg];exact Nat.ne_of_gt (bL' (g:=aD) (qB aA.out)):aC≠aD));have n8_:=A' ((by rw[hg];exact Nat.ne_of_lt (bL' (g:=aG) (qB aB.out)):aG≠aC));have n9_:=A' ((by rw[hg];exact Nat.ne_of_gt (bL' (g:=aG) (qB aB.out)):aC≠aG));clear aA;clear aB;clear HB;have aA:=n0_;have aB:=n1_;have HB:=n2_;have aH:=n3_;have bO:=n4_;have aU:=n5_;have aE:=n6_;have aM:=n7_;have aF:=n8_;have aN:=n9_;clear n0_ n1_ n2_ n3_ n4_ n5_ n6_ n7_ n8_ n9_;clear hb hbox hg;have cD:=aS.out;have cA:=aT.out;have bN:=aE.out;have bQ:=aM.out;have bD:w8.cell? ⟨aD,0,none⟩=some (.int .i64 aO):=(N' aA.out 0).trans rfl;have bK:w8.cell? ⟨aD,1,none⟩=some (.int .i64 aJ):=(N' aA.out 1).trans rfl;have bJ:=Y' aA.out 0;have bH:=Y' aA.out 1;have bY:=aF.out;have bT:=aN.out;have bF:w8.cell? ⟨aG,0,none⟩=some (.int .i64 aP):=(N' aB.out 0).trans rfl;have bI:w8.cell? ⟨aG,1,none⟩=some (.int .i64 aK):=(N' aB.out 1).trans rfl;have bE:=Y' aB.out 0;have aZ:=Y' aB.out 1)|((with_reducible refine gate_callee (f:=88) rfl ?_);refine goesL_ (some 10) rfl rfl Try.func88 (by kernel_rfl) rfl #[.int .i64 aJ,.int .i64 aK] rfl (by(try simp only[List.map_toArray,List.map_cons,List.map_nil]);first|done|rfl|(simp only[List.length_drop,List.length_take];rfl)) ?_;(with_reducible refine(impl_gcd.calls k aJ aK aI _ A3.out).mono ?_);rintro e w' ⟨rfl,⟨nd,rfl⟩⟩;refine⟨_,rfl,?_⟩;(try(rw[drewN_self w8];generalize hq_:World.drewN w8 _=w8;have n0_:Aside0 (w8.heap[aD]? =some (.cells #[.int .i64 aO,.int .i64 aJ] 142 (0,0))):=⟨by rw[← hq_];exact(qB aA.out)⟩;have n1_:Aside0 (w8.heap[aG]? =some (.cells #[.int .i64 aP,.int .i64 aK] 142 (0,0))):=⟨by rw[← hq_];exact(qB aB.out)⟩;have n2_:Aside0 (w8.heap[aC]? =some (.cells #[.int .i64 0,.int .i64 0] 142 (0,0))):=⟨by rw[← hq_];exact(qB aH.out)⟩;have n3_:Aside0 (Below w.heap.size w w8):=⟨by rw[← hq_];exact(qK3 HB.out aL.out aQ.out aU.out)⟩;clear aA aB aH HB hq_;have aA:=n0_;have aB:=n1_;have aH:=n2_;have HB:=n3_;clear n0_ n1_ n2_ n3_))))
  replace aA:=A' (I' aA.out);replace aB:=A' (I' aB.out);replace aH:=A' (I' aH.out);replace HB:=A' (J' HB.out);refine start_ (n:=24) (S:=fun w'=>w'.cell? ⟨aD,0,none⟩=some (.int .i64 aO)∧w'.cell? ⟨aD,1,none⟩=some (.int .i64 aJ)∧w'.cell? ⟨aG,0,none⟩=some (.int .i64 aP)∧w'.cell? ⟨aG,1,none⟩=some (.int .i64 aK)) (ds:=[]) #[n',n',n',n',n',n',n',n',n',n',n',n',n',n',n',n',n',n',n',n',n',n',n',n'] (by kernel_rfl) rfl rfl ⟨(N' aA.out 0).trans rfl,(N' aA.out 1).trans rfl,(N' aB.out 0).trans rfl,(N' aB.out 1).trans rfl⟩ (fun hHeld=>?_);refine with_tabW impl_addFractions.tab2 impl_addFractions.bits2 (fun HT_ HW_=>?_)
  generalize w8.drew=w14 at aA aB aH HB hHeld ⊢
  refine pure_ (i:=0) (N:=some 11) (v:=?_) (a':=?_) #[y',n',n',n',n',n',n',n',n',n',n',n',n',n',n',n',n',n',n',n',n',n',n',n'] rfl rfl (any_of HT_.out (by kernel_rfl)) (fun _ _ _ h=>h) (Or.inl ⟨by rfl,?_⟩) ?_ ?_;rotate_left
  ·exact qI
  rotate_left
  ·exact qP
  refine pure_ (i:=2) (N:=some 13) (v:=?_) (a':=?_) #[y',n',y',n',n',n',n',n',n',n',n',n',n',n',n',n',n',n',n',n',n',n',n',n'] rfl rfl (any_of HT_.out (by kernel_rfl)) (fun _ _ _ h=>h) (Or.inl ⟨by rfl,?_⟩) ?_ ?_;rotate_left
  ·exact qI
  rotate_left
  ·exact qP
  refine pure_ (i:=4) (N:=some 15) (v:=?_) (a':=?_) #[y',n',y',n',y',n',n',n',n',n',n',n',n',n',n',n',n',n',n',n',n',n',n',n'] rfl rfl (any_of HT_.out (by kernel_rfl)) (fun _ _ _ h=>h) (Or.inl ⟨by rfl,?_⟩) ?_ ?_;rotate_left
  ·exact qI
  rotate_left
  ·exact qP
  refine pure_ (i:=7) (N:=some 18) (v:=?_) (a':=?_) #[y',n',y',n',y',n',n',y',n',n',n',n',n',n',n',n',n',n',n',n',n',n',n',n'] rfl rfl (any_of HT_.out (by kernel_rfl)) (fun _ _ _ h=>h) (Or.inl ⟨by rfl,?_⟩) ?_ ?_;rotate_left
  ·exact qI
  rotate_left
  ·exact qP
  refine pure_ (i:=9) (N:=some 20) (v:=?_) (a':=?_) #[y',n',y',n',y',n',n',y',n',y',n',n',n',n',n',n',n',n',n',n',n',n',n',n'] rfl rfl (any_of HT_.out (by kernel_rfl)) (fun _ _ _ h=>h) (Or.inl ⟨by rfl,?_⟩) ?_ ?_;rotate_left
  ·exact qI
  rotate_left
  ·exact qP
  refine pure_ (i:=11) (N:=some 22) (v:=?_) (a':=?_) #[y',n',y',n',y',n',n',y',n',y',n',y',n',n',n',n',n',n',n',n',n',n',n',n'] rfl rfl (any_of HT_.out (by kernel_rfl)) (fun _ _ _ h=>h) (Or.inl ⟨by rfl,?_⟩) ?_ ?_;rotate_left
  ·exact qI
  rotate_left
  ·exact qP
  refine pure_ (i:=15) (N:=some 26) (v:=?_) (a':=?_) #[y',n',y',n',y',n',n',y',n',y',n',y',n',n',n',y',n',n',n',n',n',n',n',n'] rfl rfl (any_of HT_.out (by kernel_rfl)) (fun _ _ _ h=>h) (Or.inl ⟨by rfl,?_⟩) ?_ ?_;rotate_left
  ·exact qI
  rotate_left
  ·exact qP
  refine pure_ (i:=17) (N:=some 28) (v:=?_) (a':=?_) #[y',n',y',n',y',n',n',y',n',y',n',y',n',n',n',y',n',y',n',n',n',n',n',n'] rfl rfl (any_of HT_.out (by kernel_rfl)) (fun _ _ _ h=>h) (Or.inl ⟨by rfl,?_⟩) ?_ ?_;rotate_left
  ·exact qI
  rotate_left
  ·exact qP
  refine pure_ (i:=19) (N:=some 30) (v:=?_) (a':=?_) #[y',n',y',n',y',n',n',y',n',y',n',y',n',n',n',y',n',y',n',y',n',n',n',n'] rfl rfl (any_of HT_.out (by kernel_rfl)) (fun _ _ _ h=>h) (Or.inl ⟨by rfl,?_⟩) ?_ ?_;rotate_left
  ·exact qI
  rotate_left
  ·exact qP
  refine take_ (i:=1) (N:=some 12) (v:=?_) (a':=?_) #[y',y',y',n',y',n',n',y',n',y',n',y',n',n',n',y',n',y',n',y',n',n',n',n'] rfl rfl (take_ofW HT_.out HW_.out (by kernel_rfl)) (fun _ _ _ h=>h) (Or.inl ⟨by rfl,?_⟩) hHeld ?_ ?_;rotate_left
  ·rintro w' ⟨s0,s1,s2,s3⟩;go_simp;with_reducible rfl
  rotate_left
  ·exact qP
  refine take_ (i:=3) (N:=some 14) (v:=?_) (a':=?_) #[y',y',y',y',y',n',n',y',n',y',n',y',n',n',n',y',n',y',n',y',n',n',n',n'] rfl rfl (take_ofW HT_.out HW_.out (by kernel_rfl)) (fun _ _ _ h=>h) (Or.inl ⟨by rfl,?_⟩) hHeld ?_ ?_;rotate_left
  ·rintro w' ⟨s0,s1,s2,s3⟩;go_simp;with_reducible rfl
  rotate_left
  ·exact qP
  refine pure_ (i:=5) (N:=some 16) (v:=?_) (a':=?_) #[y',y',y',y',y',y',n',y',n',y',n',y',n',n',n',y',n',y',n',y',n',n',n',n'] rfl rfl (any_of HT_.out (by kernel_rfl)) (fun _ _ _ h=>h) (Or.inl ⟨by rfl,?_⟩) ?_ ?_;rotate_left
  ·exact qI
  rotate_left
  ·exact qP
  refine pure_ (i:=6) (N:=some 17) (v:=?_) (a':=?_) #[y',y',y',y',y',y',y',y',n',y',n',y',n',n',n',y',n',y',n',y',n',n',n',n'] rfl rfl (any_of HT_.out (by kernel_rfl)) (fun _ _ _ h=>h) (Or.inl ⟨by rfl,?_⟩) ?_ ?_;rotate_left
  ·exact qI
  rotate_left
  ·exact qP
  refine take_ (i:=8) (N:=some 19) (v:=?_) (a':=?_) #[y',y',y',y',y',y',y',y',y',y',n',y',n',n',n',y',n',y',n',y',n',n',n',n'] rfl rfl (take_ofW HT_.out HW_.out (by kernel_rfl)) (fun _ _ _ h=>h) (Or.inl ⟨by rfl,?_⟩) hHeld ?_ ?_;rotate_left
  ·rintro w' ⟨s0,s1,s2,s3⟩;go_simp;with_reducible rfl
  rotate_left
  ·exact qP
  refine take_ (i:=10) (N:=some 21) (v:=?_) (a':=?_) #[y',y',y',y',y',y',y',y',y',y',y',y',n',n',n',y',n',y',n',y',n',n',n',n'] rfl rfl (take_ofW HT_.out HW_.out (by kernel_rfl)) (fun _ _ _ h=>h) (Or.inl ⟨by rfl,?_⟩) hHeld ?_ ?_;rotate_left
  ·rintro w' ⟨s0,s1,s2,s3⟩;go_simp;with_reducible rfl
  rotate_left
  ·exact qP
  refine pure_ (i:=12) (N:=some 23) (v:=?_) (a':=?_) #[y',y',y',y',y',y',y',y',y',y',y',y',y',n',n',y',n',y',n',y',n',n',n',n'] rfl rfl (any_of HT_.out (by kernel_rfl)) (fun _ _ _ h=>h) (Or.inl ⟨by rfl,?_⟩) ?_ ?_;rotate_left
  ·exact qI
  rotate_left
  ·exact qP
  refine pure_ (i:=13) (N:=some 24) (v:=?_) (a':=?_) #[y',y',y',y',y',y',y',y',y',y',y',y',y',y',n',y',n',y',n',y',n',n',n',n'] rfl rfl (any_of HT_.out (by kernel_rfl)) (fun _ _ _ h=>h) (Or.inl ⟨by rfl,?_⟩) ?_ ?_;rotate_left
  ·exact qI
  rotate_left
  ·exact qP
  refine pure_ (i:=14) (N:=some 25) (v:=?_) (a':=?_) #[y',y',y',y',y',y',y',y',y',y',y',y',y',y',y',y',n',y',n',y',n',n',n',n'] rfl rfl (any_of HT_.out (by kernel_rfl)) (fun _ _ _ h=>h) (Or.inl ⟨by rfl,?_⟩) ?_ ?_;rotate_left
  ·exact qI
  rotate_left
  ·exact qP
  refine take_ (i:=16) (N:=some 27) (v:=?_) (a':=?_) #[y',y',y',y',y',y',y',y',y',y',y',y',y',y',y',y',y',y',n',y',n',n',n',n'] rfl rfl (take_ofW HT_.out HW_.out (by kernel_rfl)) (fun _ _ _ h=>h) (Or.inl ⟨by rfl,?_⟩) hHeld ?_ ?_;rotate_left
  ·rintro w' ⟨s0,s1,s2,s3⟩;go_simp;with_reducible rfl
  rotate_left
  ·exact qP
  refine pure_ (i:=18) (N:=some 29) (v:=?_) (a':=?_) #[y',y',y',y',y',y',y',y',y',y',y',y',y',y',y',y',y',y',y',y',n',n',n',n'] rfl rfl (any_of HT_.out (by kernel_rfl)) (fun _ _ _ h=>h) (Or.inl ⟨by rfl,?_⟩) ?_ ?_;rotate_left
  ·exact qI
  rotate_left
  ·exact qP
  refine take_ (i:=20) (N:=some 31) (v:=?_) (a':=?_) #[y',y',y',y',y',y',y',y',y',y',y',y',y',y',y',y',y',y',y',y',y',n',n',n'] rfl rfl (take_ofW HT_.out HW_.out (by kernel_rfl)) (fun _ _ _ h=>h) (Or.inl ⟨by rfl,?_⟩) hHeld ?_ ?_;rotate_left
  ·rintro w' ⟨s0,s1,s2,s3⟩;go_simp;with_reducible rfl
  rotate_left
  ·exact qP
  refine pure_ (i:=21) (N:=some 32) (v:=?_) (a':=?_) #[y',y',y',y',y',y',y',y',y',y',y',y',y',y',y',y',y',y',y',y',y',y',n',n'] rfl rfl (any_of HT_.out (by kernel_rfl)) (fun _ _ _ h=>h) (Or.inl ⟨by rfl,?_⟩) ?_ ?_;rotate_left
  ·exact qI
  rotate_left
  ·exact qP
  refine one_ (i:=22) (N:=some 33) #[y',y',y',y',y',y',y',y',y',y',y',y',y',y',y',y',y',y',y',y',y',y',y',n'] rfl rfl (one_of HT_.out (by kernel_rfl)) (by decide) (fun K hK=>?_);refine goes_ Try.func106 (by kernel_rfl) rfl #[.int .i64 (wrap64 ((wrap64 (aO*(wrap64 (Int.tdiv aK aI))))+(wrap64 (aP*(wrap64 (Int.tdiv aJ aI)))))),.int .i64 (wrap64 ((wrap64 (Int.tdiv aJ aI))*aK))] (by rfl) rfl rfl (by(try simp only[List.map_toArray,List.map_cons,List.map_nil]);first|done|rfl|(simp only[List.length_drop,List.length_take];rfl)) ?_
  with_reducible refine(impl_fraction.calls k (wrap64 ((wrap64 (aO*(wrap64 (Int.tdiv aK aI))))+(wrap64 (aP*(wrap64 (Int.tdiv aJ aI)))))) (wrap64 ((wrap64 (Int.tdiv aJ aI))*aK)) aV aW _ A5.out).mono ?_
  rintro e bW ⟨rfl,hb⟩;refine⟨_,rfl,?_⟩;replace aA:=A' (O' (g:=aD) (qB aA.out) hb);replace aB:=A' (O' (g:=aG) (qB aB.out) hb);replace aH:=A' (O' (g:=aC) (qB aH.out) hb);replace HB:=A' (W' (qK3 HB.out aL.out aQ.out aU.out) hb);(try clear hb);(try clear hb2);(try clear hk);(try clear hi);refine hK.out _ _ ⟨(N' aA.out 0).trans rfl,(N' aA.out 1).trans rfl,(N' aB.out 0).trans rfl,(N' aB.out 1).trans rfl⟩ (fun hHeld=>?_);clear hK K;refine norm_ (a':=?_) ?_ ?_;rotate_left
  ·show Act.put _ (some 33) _=_
   exact qP
  refine one_ (i:=23) (N:=none) #[y',y',y',y',y',y',y',y',y',y',y',y',y',y',y',y',y',y',y',y',y',y',y',y'] rfl rfl (one_of HT_.out (by kernel_rfl)) (by decide) (fun K hK=>?_);have cC:bW.cell? ⟨aC,0,none⟩=some (.int .i64 0):=(N' aH.out 0).trans rfl;have bU:=Y' aH.out 0;have bB:=aE.out;have bG:=aF.out;have bL:=aM.out;have aY:=aN.out;have cB:bW.cell? ⟨aC,1,none⟩=some (.int .i64 0):=(N' aH.out 1).trans rfl;have bX:=Y' aH.out 1;have aX:=aE.out;have bC:=aF.out;have bM:=aM.out;have bA:=aN.out;refine skip_ (w1:=?_) (by rfl) rfl ?_ ?_;rotate_left
  ·go_simp
   rfl
  refine hK.out _ _ ⟨((Z' (p:=⟨aC,_,none⟩) aE.out _).trans (((Z' (p:=⟨aC,_,none⟩) aE.out _).trans (hHeld.1)))),((Z' (p:=⟨aC,_,none⟩) aE.out _).trans (((Z' (p:=⟨aC,_,none⟩) aE.out _).trans (hHeld.2.1)))),((Z' (p:=⟨aC,_,none⟩) aF.out _).trans (((Z' (p:=⟨aC,_,none⟩) aF.out _).trans (hHeld.2.2.1)))),((Z' (p:=⟨aC,_,none⟩) aF.out _).trans (((Z' (p:=⟨aC,_,none⟩) aF.out _).trans (hHeld.2.2.2))))⟩ (fun hHeld=>?_);clear hK K;refine done_ (done_of HT_.out (by kernel_rfl)) ?_;try go_wp2
  refine bodyPost_ret (results_cell_row rfl _ _ aC 142 #[.int .i64 aV,.int .i64 aW] (0,0) _ rfl (by(with_reducible repeat(first|refine G' ?_ _|refine I' ?_|refine hA' ?_ _));refine blk_put (cs:=#[.int .i64 aV,.int .i64 0]) ?_ 1 _ rfl;(with_reducible repeat(first|refine G' ?_ _|refine I' ?_|refine hA' ?_ _));refine blk_put (cs:=#[.int .i64 0,.int .i64 0]) ?_ 0 _ rfl;(with_reducible repeat(first|refine G' ?_ _|refine I' ?_|refine hA' ?_ _));exact aH.out) Try.underlying142 rfl (by kernel_rfl)) rfl ?_;exact⟨qE,qK3 HB.out aL.out aQ.out aU.out⟩
end Go.Proofs.Ytebbdadpgapobaa.HEl
