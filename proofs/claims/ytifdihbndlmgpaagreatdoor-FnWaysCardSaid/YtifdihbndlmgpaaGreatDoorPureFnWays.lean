/- The program's function answers as the statement says. Conditions: none beyond the given statement's own. -/
import Derived.Test.YtifdihbndlmgpaaGreatDoorHWysx10
import Derived.Test.YtifdihbndlmgpaaGreatDoorLib
import Derived.Test.YtifdihbndlmgpaaGreatDoorLibDraw
set_option linter.unusedVariables false
set_option linter.unusedSimpArgs false
namespace Go.Proofs.YtifdihbndlmgpaaGreatDoor.PureFnWays
open Go.RowKit Go.Proofs.YtifdihbndlmgpaaGreatDoor.HWys Go.Proofs.YtifdihbndlmgpaaGreatDoorW.PrintWords Go.Proofs.YtifdihbndlmgpaaGreatDoorW.PrintLast Go.Proofs.YtifdihbndlmgpaaGreatDoorW.PrintMore Go.Proofs.YtifdihbndlmgpaaGreatDoor.Lib
theorem l00In_eq (a b c:Int):spec_l00In.f a b c=some (decide (b≤a∧a≤c)):=by
 unfold spec_l00In.f;by_cases h:a≥b <;> simp[h]
theorem within_eq (a b c:Int):impl_within.f a b c=some (decide (b≤a∧a≤c)):=by
 unfold impl_within.f;by_cases h:a≥b <;> simp[h]
structure Pu where
 f0:Int
 f1:Int
 f2:Bool
def okP (p:Pu):Prop:=(0≤p.f0∧p.f0≤4)∧(0≤p.f1∧p.f1≤4)∧1≤p.f0+p.f1∧(if p.f2=true then 0≤p.f1 - p.f0∧p.f1 - p.f0≤1 else 0≤p.f0 - p.f1∧p.f0 - p.f1≤1)
instance (p:Pu):Decidable (okP p):=inferInstanceAs (Decidable ((0≤p.f0∧p.f0≤4)∧(0≤p.f1∧p.f1≤4)∧1≤p.f0+p.f1∧(if p.f2=true then 0≤p.f1 - p.f0∧p.f1 - p.f0≤1 else 0≤p.f0 - p.f1∧p.f0 - p.f1≤1)))
theorem l05One_ev (p:Pu):Ev (fun k=>spec_l05One.f k p.f0 p.f1 p.f2) (decide (okP p),p.f0,p.f1,p.f2):=by
 have jt:Ev (fun k=>spec_l05One.j0 k true p.f0 p.f1 p.f2) (false,p.f0,p.f1,p.f2):=by
  refine ev_succ ?_;simp only[spec_l05One.j0];exact ev_pos (by trivial) (Ev.now _)
 simp only[spec_l05One.f]
 refine ev_now (l00In_eq _ _ _) (ev_if (fun h0=>ev_now (l00In_eq _ _ _) (ev_if (fun h1=>?_) (fun h1=>?_))) (fun h0=>?_))
 ·have h0:=of_decide_eq_true h0
  have h1:=of_decide_eq_true h1
  rw[w64 (x:=p.f0+p.f1) (by omega) (by omega)]
  by_cases h2:p.f0+p.f1<1
  ·rw[ofd1 h2,ofd (p:=okP p) (fun g=>by have:=g.2.2.1;omega)];exact jt
  ·rw[ofd h2]
   refine ev_succ ?_;simp only[spec_l05One.j0]
   refine ev_neg (by simp) (ev_if (fun h3=>?_) (fun h3=>?_))
   ·rw[w64 (x:=p.f1 - p.f0) (by omega) (by omega)]
    refine ev_now (l00In_eq _ _ _) (ev_some ?_)
    congr 1
    apply decide_eq_decide.2;unfold okP;rw[if_pos h3]
    exact⟨fun g=>⟨h0,h1,by omega,g⟩,fun g=>g.2.2.2⟩
   ·rw[w64 (x:=p.f0 - p.f1) (by omega) (by omega)]
    refine ev_now (l00In_eq _ _ _) (ev_some ?_)
    congr 1
    apply decide_eq_decide.2;unfold okP;rw[if_neg h3]
    exact⟨fun g=>⟨h0,h1,by omega,g⟩,fun g=>g.2.2.2⟩
 ·rw[ofd (p:=okP p) (fun g=>h1 (ofd1 g.2.1))];exact jt
 ·rw[ofd (p:=okP p) (fun g=>h0 (ofd1 g.1))];exact jt
theorem validPurchase_ev (p:Pu):Ev (fun k=>impl_ValidPurchase.f k p.f0 p.f1 p.f2) (decide (okP p)):=by
 have jt:Ev (fun k=>impl_ValidPurchase.j0 k true p.f0 p.f1 p.f2) false:=by
  refine ev_succ ?_;simp only[impl_ValidPurchase.j0];exact ev_pos (by trivial) (Ev.now _)
 simp only[impl_ValidPurchase.f]
 refine ev_now (within_eq _ _ _) (ev_if (fun h0=>ev_now (within_eq _ _ _) (ev_if (fun h1=>?_) (fun h1=>?_))) (fun h0=>?_))
 ·have h0:=of_decide_eq_true h0
  have h1:=of_decide_eq_true h1
  rw[w64 (x:=p.f0+p.f1) (by omega) (by omega)]
  by_cases h2:p.f0+p.f1=0
  ·rw[beq_iff_eq.2 h2,ofd (p:=okP p) (fun g=>by have:=g.2.2.1;omega)];exact jt
  ·rw[beq_eq_false_iff_ne.2 h2]
   refine ev_succ ?_;simp only[impl_ValidPurchase.j0]
   refine ev_neg (by simp) (ev_if (fun h3=>?_) (fun h3=>?_))
   ·rw[w64 (x:=p.f1 - p.f0) (by omega) (by omega)]
    refine ev_now (within_eq _ _ _) (ev_some ?_)
    apply decide_eq_decide.2;unfold okP;rw[if_pos h3]
    exact⟨fun g=>⟨h0,h1,by omega,g⟩,fun g=>g.2.2.2⟩
   ·rw[w64 (x:=p.f0 - p.f1) (by omega) (by omega)]
    refine ev_now (within_eq _ _ _) (ev_some ?_)
    apply decide_eq_decide.2;unfold okP;rw[if_neg h3]
    exact⟨fun g=>⟨h0,h1,by omega,g⟩,fun g=>g.2.2.2⟩
 ·rw[ofd (p:=okP p) (fun g=>h1 (ofd1 g.2.1))];exact jt
 ·rw[ofd (p:=okP p) (fun g=>h0 (ofd1 g.1))];exact jt
theorem tm0 (x:Int):x.tmod 2=0↔x % 2=0:=
 ⟨fun h=>Int.emod_eq_zero_of_dvd (Int.dvd_of_tmod_eq_zero h),fun h=>Int.tmod_eq_zero_of_dvd (Int.dvd_of_emod_eq_zero h)⟩
def lastB (p:Pu):Int:=if p.f2=true then 1 else 0
def blockB (p:Pu) (i:Int):Int:=if(p.f0+p.f1 - 1 - i) % 2=0 then lastB p else 1 - lastB p
theorem blockB_01 (p:Pu) (i:Int):blockB p i=0∨blockB p i=1:=by
 unfold blockB lastB;repeat' split
 all_goals simp
theorem blockB_next (p:Pu) (i:Int):1 - blockB p i=blockB p (i+1):=by
 unfold blockB
 by_cases h:(p.f0+p.f1 - 1 - i) % 2=0
 ·rw[if_pos h,if_neg (by omega)]
 ·rw[if_neg h,if_pos (by omega)];omega
def manyB (p:Pu) (b:Int):Int:=if b=0 then p.f0 else p.f1
theorem first_ev (p:Pu) (hp:okP p):spec_l07First.f p.f0 p.f1 p.f2=some (blockB p 0,p.f0,p.f1,p.f2):=by
 obtain⟨h0,h1,h2,_⟩:=hp
 unfold spec_l07First.f blockB lastB
 rw[w64 (by omega) (by omega),Int.tmod_eq_emod_of_nonneg (by omega)]
 by_cases h:p.f2=true
 ·rw[if_pos h,if_pos h]
  by_cases g:(p.f0+p.f1) % 2=1
  ·rw[if_pos g,if_pos (by omega)]
  ·rw[if_neg g,if_neg (by omega)]
 ·rw[if_neg h,if_neg h]
  by_cases g:(p.f0+p.f1) % 2=1
  ·rw[if_pos g,if_pos (by omega)]
  ·rw[if_neg g,if_neg (by omega)]
theorem blockAt_eq (p:Pu) (hp:okP p) (i:Int) (h0:0≤i) (h1:i≤4611686018427387904):impl_blockAt.f p.f0 p.f1 p.f2 i=some (blockB p i):=by
 obtain⟨g0,g1,g2,_⟩:=hp
 unfold impl_blockAt.f blockB lastB
 rw[w64 (x:=p.f0+p.f1) (by omega) (by omega),w64 (x:=p.f0+p.f1 - 1) (by omega) (by omega),w64 (x:=p.f0+p.f1 - 1 - i) (by omega) (by omega)]
 simp only[tm0]
 repeat' split
 all_goals rfl
theorem rdIStop {xs:List S51} {i:Nat} (h:i<xs.length):rd_T51 xs (i:Int)=xs[i]:=by
 unfold rd_T51;simp[List.getD_eq_getElem?_getD,h]
def wF (w:List S51) (x:S51):Bool:=w.any fun y=>y.f0 == x.f0 && y.f1 == x.f1
theorem wF_drop {w:List S51} {i:Nat} (h:i<w.length) (x:S51):wF (w.drop i) x=((w[i].f0 == x.f0 && w[i].f1 == x.f1) || wF (w.drop (i+1)) x):=by
 rw[List.drop_eq_getElem_cons h];rfl
theorem idx_ev (w:List S51) (x:S51) (hn:w.length≤1048576): ∀(d i:Nat),i+d=w.length→ ∃r:Int,Ev (fun k=>impl_Stop_69.l0 k w (w.length:Int) (i:Int) x.f0 x.f1) r∧decide (r≥0)=wF (w.drop i) x
 |0,i,hd=>by
  refine⟨-1,?_,?_⟩
  ·refine ev_succ ?_;simp only[impl_Stop_69.l0];exact ev_neg (by omega) (Ev.now _)
  ·rw[show w.drop i= [] by simp;omega];rfl
 |d+1,i,hd=>by
  have hi:i<w.length:=by omega
  obtain⟨r,e1,e2⟩:=idx_ev w x hn d (i+1) (by omega)
  by_cases h:(x.f0 == w[i].f0 && x.f1 == w[i].f1)=true
  ·refine⟨(i:Int),?_,?_⟩
   ·refine ev_succ ?_;simp only[impl_Stop_69.l0];rw[rdIStop hi]
    exact ev_pos (by omega) (ev_pos (by omega) (ev_pos (by omega) (ev_pos h (Ev.now _))))
   ·rw[wF_drop hi,show(w[i].f0 == x.f0 && w[i].f1 == x.f1)=true by simp at h ⊢;omega];simp
  ·refine⟨r,?_,?_⟩
   ·refine ev_succ ?_;simp only[impl_Stop_69.l0];rw[rdIStop hi,w64s (by omega)]
    exact ev_pos (by omega) (ev_pos (by omega) (ev_pos (by omega) (ev_neg h e1)))
   ·rw[e2,wF_drop hi,show(w[i].f0 == x.f0 && w[i].f1 == x.f1)=false by simp at h ⊢;omega];rfl
theorem contains_ev (w:List S51) (x:S51) (hn:w.length≤1048576):Ev (fun k=>impl_Stop_57.f k w x.f0 x.f1) (wF w x):=by
 obtain⟨r,e1,e2⟩:=idx_ev w x hn w.length 0 (by omega)
 simp only[impl_Stop_57.f,impl_Stop_69.f]
 exact Ev.bind e1 (ev_some e2)
def prW (w:List S51) (j:Nat):List Int:=if(rd_T51 w ((j+1:Nat):Int)).f0=0 then [(rd_T51 w ((j+1:Nat):Int)).f1,(rd_T51 w (j:Int)).f1]else [(rd_T51 w (j:Int)).f1,(rd_T51 w ((j+1:Nat):Int)).f1]
def prL (w:List S51) (i:Nat):List (List Int):=(List.range i).map (prW w)
theorem prL_succ (w:List S51) (i:Nat):prL w i ++ [prW w i]=prL w (i+1):=by simp[prL,List.range_succ]
theorem prL_len (w:List S51) (i:Nat):(prL w i).length=i:=by simp[prL]
theorem prL_two (w:List S51) (i:Nat): ∀x∈prL w i,x.length=2:=by
 intro x hx
 simp only[prL,List.mem_map]at hx
 obtain⟨j,_,rfl⟩:=hx
 unfold prW;split <;> rfl
theorem w_minus {i:Nat} (h:i<1048577):wrap64 (((i+1:Nat):Int) - 1)=(i:Int):=by rw[w64 (by omega) (by omega)];omega
theorem sParts_l0 (w:List S51) (hn:w.length≤1048576): ∀(d i:Nat),i+1+d=max w.length (i+1)→
  Ev (fun k=>spec_l07Parts.l0 k w (prL w i) ((i+1:Nat):Int)) (prL w (i+d))
 |0,i,hd=>by
  refine ev_succ ?_
  simp only[spec_l07Parts.l0]
  exact ev_neg (by omega) (Ev.now _)
 |d+1,i,hd=>by
  have ih:=sParts_l0 w hn d (i+1) (by omega)
  have hl:=prL_len w i
  rw[← prL_succ,show i+1+d=i+(d+1) by omega]at ih
  unfold prW at ih
  refine ev_succ ?_
  simp only[spec_l07Parts.l0]
  rw[w_minus (by omega),w64s (by omega)]
  refine ev_pos (by omega) (ev_pos (by omega) (ev_pos (by omega) (ev_pos (by omega) (ev_if (fun g=>ev_pos (by omega) ?_) (fun g=>ev_pos (by omega) ?_)))))
  ·rw[if_pos g]at ih;exact ih
  ·rw[if_neg g]at ih;exact ih
theorem iParts_l0 (w:List S51) (hn:w.length≤1048576) (p:Pu) (hb: ∀j (h:j<w.length),w[j].f0=blockB p (j:Int)): ∀(d i:Nat),i+1+d=max w.length (i+1)→
  Ev (fun k=>impl_partsOfWay.l0 k w (prL w i) ((i+1:Nat):Int)) (prL w (i+d))
 |0,i,hd=>by
  refine ev_succ ?_
  simp only[impl_partsOfWay.l0]
  exact ev_neg (by omega) (Ev.now _)
 |d+1,i,hd=>by
  have ih:=iParts_l0 w hn p hb d (i+1) (by omega)
  have hl:=prL_len w i
  rw[← prL_succ,show i+1+d=i+(d+1) by omega]at ih
  have h1:=hb i (by omega)
  have h2:=hb (i+1) (by omega)
  have e1:rd_T51 w (i:Int)=w[i]:=rdIStop (by omega)
  have e2:rd_T51 w ((i+1:Nat):Int)=w[i+1]:=rdIStop (by omega)
  have bn:=blockB_next p (i:Int)
  rw[show((i:Int)+1)=((i+1:Nat):Int) by omega]at bn
  unfold prW at ih
  rw[e1,e2]at ih
  have aA:=blockB_01 p (i:Int)
  refine ev_succ ?_
  simp only[impl_partsOfWay.l0]
  rw[w_minus (by omega),w64s (by omega),e1,e2,h1,h2,← bn]
  rw[h2,← bn]at ih
  refine ev_pos (by omega) (ev_pos (by omega) (ev_now rfl ?_))
  rcases aA with q|q
  ·rw[q]at ih ⊢
   rw[if_neg (by omega)]at ih
   exact ev_pos (by omega) (ev_pos (by omega) (ev_pos (by omega) (ev_pos (by simp) (ev_pos (by omega) (ev_pos (by omega) (ev_pos (by simp) (ev_pos (by omega) ih)))))))
  ·rw[q]at ih ⊢
   rw[if_pos (by omega)]at ih
   exact ev_pos (by omega) (ev_pos (by omega) (ev_pos (by omega) (ev_pos (by simp) (ev_pos (by omega) (ev_pos (by omega) (ev_pos (by simp) (ev_pos (by omega) ih)))))))
theorem parts_both (w:List S51) (hn:w.length≤1048576) (p:Pu) (hb: ∀j (h:j<w.length),w[j].f0=blockB p (j:Int)):
  Ev (fun k=>spec_l07Parts.f k w) (prL w (w.length - 1))∧Ev (fun k=>impl_partsOfWay.f k w) (prL w (w.length - 1)):=by
 have s:=sParts_l0 w hn (w.length - 1) 0 (by omega)
 have i:=iParts_l0 w hn p hb (w.length - 1) 0 (by omega)
 rw[Nat.zero_add (w.length - 1)]at s i
 simp only[spec_l07Parts.f,impl_partsOfWay.f]
 exact⟨s,i⟩
def crP (t:Bool) (a b:List Int):Prop:=if t=true then wrap64 (wrap64 (rd a 0 - rd b 0)*wrap64 (rd a 1 - rd b 1)) > 0 else wrap64 (wrap64 (rd a 0 - rd b 0)*wrap64 (rd a 1 - rd b 1))<0
instance (t:Bool) (a b:List Int):Decidable (crP t a b):=by unfold crP;infer_instance
theorem rdL {ps:List (List Int)} {i:Nat} (h:i<ps.length):rd_L5 ps (i:Int)=ps[i]:=by
 unfold rd_L5;simp[List.getD_eq_getElem?_getD,h]
def okS (p:Pu) (w:List S51) (j:Nat) (h:j<w.length):Prop:=w[j].f0=blockB p (j:Int)∧(0≤w[j].f1∧w[j].f1≤manyB p (blockB p (j:Int)) - 1)∧wF (w.take j) w[j]=false
theorem sFault_l1 (w:List S51) (hn:w.length≤1048576) (b:Int) (hb:b=0∨b=1) (p:Pu) (i:Nat) (hi:i<w.length) (r:ByteArray×Int×Int×Int×Bool)
  (h1:wF (w.take i) w[i]=true→r=((⟨#[116,119,105,99,101]⟩:ByteArray),(i:Int),p.f0,p.f1,p.f2))
  (h2:wF (w.take i) w[i]=false→Ev (fun k=>spec_l07Fault.l0 k w (1 - b) ((i+1:Nat):Int) p.f0 p.f1 p.f2) r): ∀(d j:Nat),j+d=i→wF (w.take i) w[i]=wF ((w.take i).drop j) w[i]→
  Ev (fun k=>spec_l07Fault.l1 k w b (i:Int) (j:Int) p.f0 p.f1 p.f2 w[i].f0 w[i].f1) r
 |0,j,hd,hs=>by
  refine ev_succ ?_;simp only[spec_l07Fault.l1]
  rw[w64s (i:=i) (by omega),w64 (x:=1 - b) (by omega) (by omega)]
  refine ev_neg (by omega) (h2 ?_)
  rw[hs,show(w.take i).drop j= [] by simp;omega];rfl
 |d+1,j,hd,hs=>by
  have hj:j<(w.take i).length:=by simp;omega
  refine ev_succ ?_;simp only[spec_l07Fault.l1]
  rw[rdIStop (show j<w.length by omega),w64s (by omega)]
  rw[wF_drop hj,List.getElem_take]at hs
  refine ev_pos (by omega) (ev_pos (by omega) (ev_pos (by omega) (ev_if (fun h=>ev_some ?_) (fun h=>?_))))
  ·symm;apply h1;rw[hs,h];rfl
  ·refine sFault_l1 w hn b hb p i hi r h1 h2 d (j+1) (by omega) ?_
   rw[hs,Bool.eq_false_iff.2 h];rfl
theorem fault5_l0 (w:List S51) (hn:w.length≤1048576) (p:Pu) (hp:okP p): ∀(d i:Nat),i+d=w.length→
  ∃r:ByteArray×Int,Ev (fun k=>spec_l07Fault.l0 k w (blockB p i) (i:Int) p.f0 p.f1 p.f2) (r.1,r.2,p.f0,p.f1,p.f2)∧Ev (fun k=>impl_wayFault.l0 k w w (w.length:Int) (i:Int) p.f0 p.f1 p.f2) r∧(r.1.toList=([110,111,110,101]:List UInt8)↔(∀j (h:j<w.length),i≤j→okS p w j h)∧p.f0+p.f1≤(w.length:Int))
 |0,i,hd=>by
  obtain⟨g0,g1,g2,_⟩:=hp
  by_cases h:(w.length:Int)<p.f0+p.f1
  ·refine⟨((⟨#[115,104,111,114,116]⟩:ByteArray),(w.length:Int)),?_,?_,⟨fun q=>absurd q (show¬(⟨#[115,104,111,114,116]⟩:ByteArray).toList=([110,111,110,101]:List UInt8)from by decide+kernel),fun q=>by have:=q.2;omega⟩⟩
   ·refine ev_succ ?_;simp only[spec_l07Fault.l0];rw[w64 (x:=p.f0+p.f1) (by omega) (by omega)]
    exact ev_neg (by omega) (ev_pos h (Ev.now _))
   ·refine ev_succ ?_;simp only[impl_wayFault.l0];rw[w64 (x:=p.f0+p.f1) (by omega) (by omega)]
    exact ev_neg (by omega) (ev_pos h (Ev.now _))
  ·refine⟨((⟨#[110,111,110,101]⟩:ByteArray),-1),?_,?_,⟨fun _=>⟨fun j hj hij=>by omega,by omega⟩,fun _=>(show(⟨#[110,111,110,101]⟩:ByteArray).toList=([110,111,110,101]:List UInt8)from by decide+kernel)⟩⟩
   ·refine ev_succ ?_;simp only[spec_l07Fault.l0];rw[w64 (x:=p.f0+p.f1) (by omega) (by omega)]
    exact ev_neg (by omega) (ev_neg h (Ev.now _))
   ·refine ev_succ ?_;simp only[impl_wayFault.l0];rw[w64 (x:=p.f0+p.f1) (by omega) (by omega)]
    exact ev_neg (by omega) (ev_neg h (Ev.now _))
 |d+1,i,hd=>by
  have hi:i<w.length:=by omega
  obtain⟨r0,e1,e2,e3⟩:=fault5_l0 w hn p hp d (i+1) (by omega)
  have aA:=blockB_01 p i
  have ba:=blockAt_eq p hp i (by omega) (by omega)
  have bn:=blockB_next p i
  rw[show((i:Int)+1)=((i+1:Nat):Int) by omega]at bn
  obtain⟨g0,g1,g2,_⟩:=hp
  by_cases h:w[i].f0=blockB p i
  ·have es:impl_sheavesAt.f p.f0 p.f1 p.f2 (w[i].f0)=some (manyB p (blockB p i)):=by
    rw[h];unfold impl_sheavesAt.f manyB
    rcases aA with q|q <;> rw[q] <;> simp
   have em:spec_l07Many.f p.f0 p.f1 p.f2 (blockB p i)=some (manyB p (blockB p i),p.f0,p.f1,p.f2):=by
    unfold spec_l07Many.f manyB;split <;> rfl
   have mb:0≤manyB p (blockB p i)∧manyB p (blockB p i)≤4:=by unfold manyB;split <;> omega
   by_cases g:0≤w[i].f1∧w[i].f1≤manyB p (blockB p i) - 1
   ·have ec:=contains_ev (w.take i) w[i] (by simp;omega)
    by_cases t:wF (w.take i) w[i]=true
    ·refine⟨((⟨#[116,119,105,99,101]⟩:ByteArray),(i:Int)),?_,?_,⟨fun q=>absurd q (show¬(⟨#[116,119,105,99,101]⟩:ByteArray).toList=([110,111,110,101]:List UInt8)from by decide+kernel),fun q=>by have z:=(q.1 i hi (Nat.le_refl _)).2.2;rw[t]at z;cases z⟩⟩
     ·refine ev_succ ?_;simp only[spec_l07Fault.l0];rw[rdIStop hi]
      refine ev_pos (by omega) (ev_pos (by omega) (ev_pos h (ev_now em ?_)))
      rw[w64 (by omega) (by omega)]
      refine ev_now (l00In_eq _ _ _) (ev_pos (ofd1 g) ?_)
      exact sFault_l1 w hn _ aA p i hi _ (fun _=>rfl) (fun q=>by rw[t]at q;cases q) i 0 (by omega) (by simp)
     ·refine ev_succ ?_;simp only[impl_wayFault.l0];rw[rdIStop hi]
      refine ev_pos (by omega) (ev_pos (by omega) (ev_pos (by omega) (ev_now ba (ev_pos h (ev_now es ?_)))))
      rw[w64 (x:=manyB p (blockB p i) - 1) (by omega) (by omega)]
      refine ev_now (within_eq _ _ _) (ev_pos (ofd1 g) (ev_pos (by omega) ?_))
      rw[Int.toNat_natCast]
      exact Ev.bind ec (ev_pos t (Ev.now _))
    ·refine⟨r0,?_,?_,e3.trans ⟨fun q=>⟨fun j hj hij=>by
      rcases Nat.eq_or_lt_of_le hij with z|z
      ·subst z;exact⟨h,g,Bool.eq_false_iff.mpr t⟩
      ·exact q.1 j hj z,q.2⟩,fun q=>⟨fun j hj hij=>q.1 j hj (by omega),q.2⟩⟩⟩
     ·refine ev_succ ?_;simp only[spec_l07Fault.l0];rw[rdIStop hi]
      refine ev_pos (by omega) (ev_pos (by omega) (ev_pos h (ev_now em ?_)))
      rw[w64 (by omega) (by omega)]
      refine ev_now (l00In_eq _ _ _) (ev_pos (ofd1 g) ?_)
      exact sFault_l1 w hn _ aA p i hi _ (fun q=>absurd q t) (fun _=>by rw[bn];exact e1) i 0 (by omega) (by simp)
     ·refine ev_succ ?_;simp only[impl_wayFault.l0];rw[rdIStop hi]
      refine ev_pos (by omega) (ev_pos (by omega) (ev_pos (by omega) (ev_now ba (ev_pos h (ev_now es ?_)))))
      rw[w64 (x:=manyB p (blockB p i) - 1) (by omega) (by omega)]
      refine ev_now (within_eq _ _ _) (ev_pos (ofd1 g) (ev_pos (by omega) ?_))
      rw[Int.toNat_natCast,w64s (by omega)]
      exact Ev.bind ec (ev_neg t e2)
   ·refine⟨((⟨#[115,104,101,97,118,101]⟩:ByteArray),(i:Int)),?_,?_,⟨fun q=>absurd q (show¬(⟨#[115,104,101,97,118,101]⟩:ByteArray).toList=([110,111,110,101]:List UInt8)from by decide+kernel),fun q=>absurd (q.1 i hi (Nat.le_refl _)).2.1 g⟩⟩
    ·refine ev_succ ?_;simp only[spec_l07Fault.l0];rw[rdIStop hi]
     refine ev_pos (by omega) (ev_pos (by omega) (ev_pos h (ev_now em ?_)))
     rw[w64 (by omega) (by omega)]
     exact ev_now (l00In_eq _ _ _) (ev_neg (by rw[decide_eq_true_eq];exact g) (Ev.now _))
    ·refine ev_succ ?_;simp only[impl_wayFault.l0];rw[rdIStop hi]
     refine ev_pos (by omega) (ev_pos (by omega) (ev_pos (by omega) (ev_now ba (ev_pos h (ev_now es ?_)))))
     rw[w64 (x:=manyB p (blockB p i) - 1) (by omega) (by omega)]
     exact ev_now (within_eq _ _ _) (ev_neg (by rw[decide_eq_true_eq];exact g) (Ev.now _))
  ·refine⟨((⟨#[98,108,111,99,107]⟩:ByteArray),(i:Int)),?_,?_,⟨fun q=>absurd q (show¬(⟨#[98,108,111,99,107]⟩:ByteArray).toList=([110,111,110,101]:List UInt8)from by decide+kernel),fun q=>absurd (q.1 i hi (Nat.le_refl _)).1 h⟩⟩
   ·refine ev_succ ?_;simp only[spec_l07Fault.l0];rw[rdIStop hi]
    exact ev_pos (by omega) (ev_pos (by omega) (ev_neg h (Ev.now _)))
   ·refine ev_succ ?_;simp only[impl_wayFault.l0];rw[rdIStop hi]
    exact ev_pos (by omega) (ev_pos (by omega) (ev_pos (by omega) (ev_now ba (ev_neg h (Ev.now _)))))
def okW (p:Pu) (w:List S51):Prop:=(∀j (h:j<w.length),okS p w j h)∧p.f0+p.f1≤(w.length:Int)
theorem fault5_ev (w:List S51) (hn:w.length≤1048576) (p:Pu) (hp:okP p):
  ∃r:ByteArray×Int,Ev (fun k=>spec_l07Fault.f k p.f0 p.f1 p.f2 w) (r.1,r.2,p.f0,p.f1,p.f2)∧Ev (fun k=>impl_wayFault.f k p.f0 p.f1 p.f2 w) r∧(r.1.toList=([110,111,110,101]:List UInt8)↔okW p w):=by
 obtain⟨r,e1,e2,e3⟩:=fault5_l0 w hn p hp w.length 0 (by omega)
 refine⟨r,?_,?_,e3.trans ⟨fun q=>⟨fun j hj=>q.1 j hj (by omega),q.2⟩,fun q=>⟨fun j hj _=>q.1 j hj,q.2⟩⟩⟩
 ·simp only[spec_l07Fault.f];exact ev_now (first_ev p hp) e1
 ·simp only[impl_wayFault.f];exact e2
theorem code_ok (p:Pu) (w:List S51) (hn:w.length≤1048576): ∃c:Int,Ev (fun k=>spec_l07Code.f k p.f0 p.f1 p.f2 w) (c,p.f0,p.f1,p.f2)∧Ev (fun k=>impl_wayCode.f k p.f0 p.f1 p.f2 w) c∧(c=0↔okP p∧okW p w):=by
 have e1:=l05One_ev p
 have e2:=validPurchase_ev p
 by_cases hp:okP p
 ·rw[ofd1 hp]at e1 e2
  obtain⟨r,e3,e4,e5⟩:=fault5_ev w hn p hp
  by_cases q:r.1.toList=([110,111,110,101]:List UInt8)
  ·refine⟨0,?_,?_,⟨fun _=>⟨hp,e5.mp q⟩,fun _=>rfl⟩⟩
   ·simp only[spec_l07Code.f];exact Ev.bind e1 (ev_pos (by trivial) (Ev.bind e3 (ev_pos q (Ev.now _))))
   ·simp only[impl_wayCode.f];exact Ev.bind e2 (ev_pos (by trivial) (Ev.bind e4 (ev_pos q (Ev.now _))))
  ·refine⟨8,?_,?_,⟨fun h=>absurd h (by decide),fun h=>absurd (e5.mpr h.2) q⟩⟩
   ·simp only[spec_l07Code.f];exact Ev.bind e1 (ev_pos (by trivial) (Ev.bind e3 (ev_neg q (Ev.now _))))
   ·simp only[impl_wayCode.f];exact Ev.bind e2 (ev_pos (by trivial) (Ev.bind e4 (ev_neg q (Ev.now _))))
 ·rw[ofd hp]at e1 e2
  refine⟨1,?_,?_,⟨fun h=>absurd h (by decide),fun h=>absurd h.1 hp⟩⟩
  ·simp only[spec_l07Code.f];exact Ev.bind e1 (ev_neg (by simp) (Ev.now _))
  ·simp only[impl_wayCode.f];exact Ev.bind e2 (ev_neg (by simp) (Ev.now _))
theorem nodup_le {α:Type} [DecidableEq α]: ∀(l S:List α),l.Nodup→(∀x∈l,x∈S)→l.length≤S.length
 |[],_,_,_=>Nat.zero_le _
 |x :: l,S,h,hs=>by
  rw[List.nodup_cons]at h
  have hx:=hs x (by simp)
  have:=nodup_le l (S.erase x) h.2 (fun y hy=>(List.mem_erase_of_ne (fun e=>h.1 (by rw[← e];exact hy))).mpr (hs y (by simp[hy])))
  rw[List.length_erase_of_mem hx]at this
  have:=List.length_pos_of_mem hx
  simp only[List.length_cons];omega
theorem okW_len {p:Pu} (hp:okP p) {w:List S51} (h:okW p w):w.length=(p.f0+p.f1).toNat:=by
 obtain⟨g0,g1,g2,_⟩:=hp
 have hle:(w.map fun s=>(s.f0,s.f1)).length≤(((List.range p.f0.toNat).map fun(i:Nat)=>((0:Int),(i:Int))) ++ ((List.range p.f1.toNat).map fun(i:Nat)=>((1:Int),(i:Int)))).length:=by
  refine nodup_le _ _ ?_ ?_
  ·rw[List.Nodup,List.pairwise_iff_getElem]
   intro i j hi hj hij e
   simp only[List.length_map]at hi hj
   simp only[List.getElem_map,Prod.mk.injEq]at e
   have h3:=(h.1 j hj).2.2
   have:wF (w.take j) w[j]=true:=by
    unfold wF
    rw[List.any_eq_true]
    refine⟨w[i],?_,by simp[e.1,e.2]⟩
    rw[List.mem_iff_getElem]
    exact⟨i,by simp;omega,by simp⟩
   rw[h3]at this
   cases this
  ·intro x hx
   rw[List.mem_map]at hx
   obtain⟨s,hs,rfl⟩:=hx
   obtain⟨j,hj,rfl⟩:=List.mem_iff_getElem.mp hs
   obtain⟨a,b,_⟩:=h.1 j hj
   rw[List.mem_append,List.mem_map,List.mem_map]
   rcases blockB_01 p (j:Int)with q|q
   ·rw[q]at a b
    simp only[manyB,if_true]at b
    exact .inl ⟨w[j].f1.toNat,by rw[List.mem_range];omega,by rw[a];congr 1;omega⟩
   ·rw[q]at a b
    simp only[manyB,show¬((1:Int)=0)from by decide,if_false]at b
    exact .inr ⟨w[j].f1.toNat,by rw[List.mem_range];omega,by rw[a];congr 1;omega⟩
 have:=h.2
 simp only[List.length_map,List.length_append,List.length_range]at hle
 omega
def plS (p:Pu) (i:Nat):S51:=⟨blockB p (i:Int),((i / 2:Nat):Int)⟩
def plL (p:Pu) (n:Nat):List S51:=(List.range n).map (plS p)
theorem plL_len (p:Pu) (n:Nat):(plL p n).length=n:=by simp[plL]
theorem plL_succ (p:Pu) (n:Nat):plL p n ++ [plS p n]=plL p (n+1):=by simp[plL,List.range_succ]
theorem plL_get (p:Pu) (n:Nat) {i:Nat} (h:i<(plL p n).length):(plL p n)[i]=plS p i:=by simp[plL]
def cB (p:Pu) (b:Int) (i:Nat):Int:=if blockB p (i:Int)=b then((i / 2:Nat):Int)else(((i+1) / 2:Nat):Int)
theorem plain_l0 (p:Pu) (hp:okP p): ∀(d i:Nat),((i+d:Nat):Int)=p.f0+p.f1→
  Ev (fun k=>spec_PlainWay.l0 k (plL p i) [cB p 0 i,cB p 1 i] (blockB p (i:Int)) p.f0 p.f1 p.f2) (plL p (i+d),0)∧Ev (fun k=>impl_PlainWay.l0 k (plL p i) (i:Int) p.f0 p.f1 p.f2 (cB p 0 i) (cB p 1 i)) (plL p (i+d),0)
 |0,i,hd=>by
  have hl:=plL_len p i
  obtain⟨g0,g1,g2,_⟩:=hp
  refine⟨ev_succ ?_,ev_succ ?_⟩
  ·simp only[spec_PlainWay.l0]
   rw[w64 (x:=p.f0+p.f1) (by omega) (by omega)]
   exact ev_neg (by omega) (Ev.now _)
  ·simp only[impl_PlainWay.l0]
   rw[w64 (x:=p.f0+p.f1) (by omega) (by omega)]
   exact ev_neg (by omega) (Ev.now _)
 |d+1,i,hd=>by
  have ba:=blockAt_eq p hp (i:Int) (by omega) (by obtain⟨g0,g1,g2,_⟩:=hp;omega)
  have aA:=blockB_01 p (i:Int)
  have bn:=blockB_next p (i:Int)
  rw[show((i:Int)+1)=((i+1:Nat):Int) by omega]at bn
  obtain⟨ihs,ihi⟩:=plain_l0 p hp d (i+1) (by omega)
  have hl:=plL_len p i
  obtain⟨g0,g1,g2,_⟩:=hp
  rw[show i+1+d=i+(d+1) by omega,← plL_succ]at ihs ihi
  unfold plS at ihs ihi
  rcases aA with q|q
  ·have e0:cB p 0 i=((i / 2:Nat):Int):=if_pos q
   have e1:cB p 1 i=(((i+1) / 2:Nat):Int):=if_neg (by omega)
   have e2:cB p 0 (i+1)=(((i+1+1) / 2:Nat):Int):=if_neg (by omega)
   have e3:cB p 1 (i+1)=(((i+1) / 2:Nat):Int):=if_pos (by omega)
   rw[e2,e3,← bn,q]at ihs
   rw[e2,e3,q]at ihi
   rw[q]at ba
   rw[e0,e1,q]
   refine⟨ev_succ ?_,ev_succ ?_⟩
   ·simp only[spec_PlainWay.l0]
    rw[w64 (x:=p.f0+p.f1) (by omega) (by omega),show rd [((i / 2:Nat):Int),(((i+1) / 2:Nat):Int)] 0=((i / 2:Nat):Int)from rfl,w64 (x:=((i / 2:Nat):Int)+1) (by omega) (by omega),w64 (x:=1 - 0) (by omega) (by omega),show((i / 2:Nat):Int)+1=(((i+1+1) / 2:Nat):Int) by omega]
    exact ev_pos (by omega) (ev_pos (by omega) (ev_pos (by simp) (ev_pos (by omega) ihs)))
   ·simp only[impl_PlainWay.l0]
    rw[w64 (x:=p.f0+p.f1) (by omega) (by omega),w64s (by omega),w64 (x:=((i / 2:Nat):Int)+1) (by omega) (by omega),show((i / 2:Nat):Int)+1=(((i+1+1) / 2:Nat):Int) by omega]
    exact ev_pos (by omega) (ev_now ba (ev_pos (by omega) (ev_pos (by omega) (ev_pos rfl (ev_pos (by omega) ihi)))))
  ·have e0:cB p 1 i=((i / 2:Nat):Int):=if_pos q
   have e1:cB p 0 i=(((i+1) / 2:Nat):Int):=if_neg (by omega)
   have e2:cB p 1 (i+1)=(((i+1+1) / 2:Nat):Int):=if_neg (by omega)
   have e3:cB p 0 (i+1)=(((i+1) / 2:Nat):Int):=if_pos (by omega)
   rw[e2,e3,← bn,q]at ihs
   rw[e2,e3,q]at ihi
   rw[q]at ba
   rw[e0,e1,q]
   refine⟨ev_succ ?_,ev_succ ?_⟩
   ·simp only[spec_PlainWay.l0]
    rw[w64 (x:=p.f0+p.f1) (by omega) (by omega),show rd [(((i+1) / 2:Nat):Int),((i / 2:Nat):Int)] 1=((i / 2:Nat):Int)from rfl,w64 (x:=((i / 2:Nat):Int)+1) (by omega) (by omega),w64 (x:=1 - 1) (by omega) (by omega),show((i / 2:Nat):Int)+1=(((i+1+1) / 2:Nat):Int) by omega]
    exact ev_pos (by omega) (ev_pos (by omega) (ev_pos (by simp) (ev_pos (by omega) ihs)))
   ·simp only[impl_PlainWay.l0]
    rw[w64 (x:=p.f0+p.f1) (by omega) (by omega),w64s (by omega),w64 (x:=((i / 2:Nat):Int)+1) (by omega) (by omega),show((i / 2:Nat):Int)+1=(((i+1+1) / 2:Nat):Int) by omega]
    exact ev_pos (by omega) (ev_now ba (ev_pos (by omega) (ev_pos (by omega) (ev_neg (by omega) (ev_pos (by omega) ihi)))))
theorem plain_ok {p:Pu} (hp:okP p):Ev (fun k=>spec_PlainWay.f k p.f0 p.f1 p.f2) (plL p (p.f0+p.f1).toNat,0)∧Ev (fun k=>impl_PlainWay.f k p.f0 p.f1 p.f2) (plL p (p.f0+p.f1).toNat,0):=by
 have e1:=l05One_ev p
 have e2:=validPurchase_ev p
 rw[ofd1 hp]at e1 e2
 have hp':=hp
 obtain⟨g0,g1,g2,_⟩:=hp
 obtain⟨s,i⟩:=plain_l0 p hp' (p.f0+p.f1).toNat 0 (by omega)
 have c0: ∀b,cB p b 0=0:=by intro b;unfold cB;split <;> rfl
 rw[c0,c0,Nat.zero_add]at s i
 constructor
 ·simp only[spec_PlainWay.f];exact Ev.bind e1 (ev_pos (by trivial) (ev_now (first_ev p hp') s))
 ·simp only[impl_PlainWay.f];exact Ev.bind e2 (ev_pos (by trivial) i)
theorem plain_no {p:Pu} (hp: ¬okP p):Ev (fun k=>spec_PlainWay.f k p.f0 p.f1 p.f2) ([],1)∧Ev (fun k=>impl_PlainWay.f k p.f0 p.f1 p.f2) ([],1):=by
 have e1:=l05One_ev p
 have e2:=validPurchase_ev p
 rw[ofd hp]at e1 e2
 constructor
 ·simp only[spec_PlainWay.f];exact Ev.bind e1 (ev_neg (by simp) (Ev.now _))
 ·simp only[impl_PlainWay.f];exact Ev.bind e2 (ev_neg (by simp) (Ev.now _))
theorem plain_okW {p:Pu} (hp:okP p):okW p (plL p (p.f0+p.f1).toNat):=by
 obtain⟨g0,g1,g2,g3⟩:=hp
 refine⟨fun j hj=>⟨by rw[plL_get];rfl,?_,?_⟩,by rw[plL_len];omega⟩
 ·rw[plL_get]
  rw[plL_len]at hj
  unfold plS
  dsimp only
  unfold blockB lastB manyB
  cases hf:p.f2 with
  |true=>
   rw[hf]at g3
   simp only[if_true]at g3 ⊢
   repeat' split
   all_goals omega
  |false=>
   rw[hf]at g3
   simp only[Bool.false_eq_true,if_false]at g3 ⊢
   repeat' split
   all_goals omega
 ·rw[plL_get]
  unfold wF
  rw[List.any_eq_false]
  intro y hy
  obtain⟨i,hi,rfl⟩:=List.mem_iff_getElem.mp hy
  rw[List.getElem_take,plL_get]
  rw[List.length_take]at hi
  have hij:i<j:=by omega
  unfold plS
  dsimp only
  simp only[Bool.and_eq_true,beq_iff_eq,not_and]
  intro e1 e2
  have aA:j=i+1:=by omega
  subst aA
  have bn:=blockB_next p (i:Int)
  rw[show((i:Int)+1)=((i+1:Nat):Int) by omega]at bn
  have:=blockB_01 p (i:Int)
  omega
def mirror (p:Pu) (x:S51):S51:=⟨x.f0,wrap64 (wrap64 (manyB p x.f0 - 1) - x.f1)⟩
theorem sMirror_l0 (w:List S51) (hn:w.length≤1048576) (p:Pu): ∀(d i:Nat),i+d=w.length→Ev (fun k=>spec_MirrorWay.l0 k w ((w.take i).map (mirror p)) (i:Int) p.f0 p.f1 p.f2) (w.map (mirror p),0)
 |0,i,hd=>by
  refine ev_succ ?_;simp only[spec_MirrorWay.l0]
  rw[List.take_of_length_le (by omega)]
  exact ev_neg (by omega) (Ev.now _)
 |d+1,i,hd=>by
  have hi:i<w.length:=by omega
  have ih:=sMirror_l0 w hn p d (i+1) (by omega)
  rw[List.take_succ_eq_append_getElem hi,List.map_append]at ih
  refine ev_succ ?_;simp only[spec_MirrorWay.l0]
  rw[rdIStop hi,w64s (by omega)]
  have em:spec_l07Many.f p.f0 p.f1 p.f2 (w[i].f0)=some (manyB p (w[i].f0),p.f0,p.f1,p.f2):=by
   unfold spec_l07Many.f manyB;split <;> rfl
  exact ev_pos (by omega) (ev_pos (by omega) (ev_now em (ev_pos (by simp;omega) ih)))
theorem iMirror_l0 (w:List S51) (hn:w.length≤1048576) (p:Pu) (hb: ∀j (h:j<w.length),w[j].f0=0∨w[j].f0=1): ∀(d i:Nat),i+d=w.length→Ev (fun k=>impl_MirrorWay.l0 k ((w.take i).map (mirror p)) w (w.length:Int) (i:Int) p.f0 p.f1 p.f2) (w.map (mirror p),0)
 |0,i,hd=>by
  refine ev_succ ?_;simp only[impl_MirrorWay.l0]
  rw[List.take_of_length_le (by omega)]
  exact ev_neg (by omega) (Ev.now _)
 |d+1,i,hd=>by
  have hi:i<w.length:=by omega
  have ih:=iMirror_l0 w hn p hb d (i+1) (by omega)
  rw[List.take_succ_eq_append_getElem hi,List.map_append]at ih
  refine ev_succ ?_;simp only[impl_MirrorWay.l0]
  rw[rdIStop hi,w64s (by omega)]
  have em:impl_sheavesAt.f p.f0 p.f1 p.f2 (w[i].f0)=some (manyB p (w[i].f0)):=by
   unfold impl_sheavesAt.f manyB
   rcases hb i hi with q|q <;> rw[q] <;> simp
  exact ev_pos (by omega) (ev_pos (by omega) (ev_pos (by omega) (ev_now em (ev_pos (by simp;omega) ih))))
def crL1 (F:Nat→Nat→Bool) (i:Nat):Nat→Nat→List S61
 |0,_=>[]
 |d+1,j=>(if F i j=true then [⟨(i:Int),(j:Int)⟩]else []) ++ crL1 F i d (j+1)
def crL0 (F:Nat→Nat→Bool) (n:Nat):Nat→Nat→List S61
 |0,_=>[]
 |D+1,i=>crL1 F i (n - (i+1)) (i+1) ++ crL0 F n D (i+1)
theorem crL1_congr {F G:Nat→Nat→Bool} {i n:Nat} (h: ∀j,i<j→j<n→F i j=G i j): ∀(d j:Nat),i<j→j+d=n→crL1 F i d j=crL1 G i d j
 |0,_,_,_=>rfl
 |d+1,j,hij,hd=>by
  simp only[crL1]
  rw[h j hij (by omega),crL1_congr h d (j+1) (by omega) (by omega)]
theorem crL0_congr {F G:Nat→Nat→Bool} {n:Nat} (h: ∀i j,i<j→j<n→F i j=G i j): ∀(D i:Nat),i+D=n→crL0 F n D i=crL0 G n D i
 |0,_,_=>rfl
 |D+1,i,hd=>by
  simp only[crL0]
  rw[crL1_congr (fun j=>h i j) _ _ (by omega) (by omega),crL0_congr h D (i+1) (by omega)]
theorem crL1_no (i:Nat): ∀(d j:Nat),crL1 (fun _ _=>false) i d j= []
 |0,_=>rfl
 |d+1,j=>by simp only[crL1];rw[crL1_no i d (j+1)];rfl
theorem crL0_no (n:Nat): ∀(D i:Nat),crL0 (fun _ _=>false) n D i= []
 |0,_=>rfl
 |D+1,i=>by simp only[crL0];rw[crL1_no,crL0_no n D (i+1)];rfl
theorem cr_l1 (ps:List (List Int)) (hp: ∀x∈ps,x.length=2) (hn:ps.length≤1000) (F:Nat→Nat→Bool) (hF: ∀(i j:Nat) (hi:i<ps.length) (hj:j<ps.length),i<j→F i j=decide (crP false ps[i] ps[j])) (i:Nat) (hi:i<ps.length) (R:List S61)
  (next: ∀l:List S61,l.length≤(i+1)*1000→Ev (fun k=>impl_crossings.l0 k false l ps ps (ps.length:Int) ((i+1:Nat):Int)) (l ++ R)):
  ∀(d j:Nat) (l:List S61),i<j→j+d=ps.length→l.length+d≤(i+1)*1000→
  Ev (fun k=>impl_crossings.l1 k false l ps (i:Int) ps[i] (j:Int) ps (ps.length:Int) (i:Int)) (l ++ (crL1 F i d j ++ R))
 |0,j,l,hij,hd,hb=>by
  refine ev_succ ?_
  simp only[impl_crossings.l1,crL1]
  rw[w64s (i:=i) (by omega),List.nil_append]
  exact ev_neg (by omega) (next l (by omega))
 |d+1,j,l,hij,hd,hb=>by
  have hj:j<ps.length:=by omega
  have li:=hp _ (List.getElem_mem hi)
  have lj:=hp _ (List.getElem_mem hj)
  have h:=hF i j hi hj hij
  have hk:(i+1)*1000≤1000*1000:=Nat.mul_le_mul (by omega) (Nat.le_refl _)
  refine ev_succ ?_
  simp only[impl_crossings.l1,crL1]
  rw[w64s (i:=j) (by omega),rdL hj]
  refine ev_pos (by omega) (ev_pos (by omega) (ev_pos (by omega) (ev_pos (by omega) (ev_pos (by omega) (ev_pos (by omega) ?_)))))
  unfold crP at h
  simp only[Bool.false_eq_true,if_false]at h
  refine ev_if (fun g=>?_) (fun g=>?_)
  ·have g:=g
   rw[h,decide_eq_true g,if_pos rfl]
   have ih:=cr_l1 ps hp hn F hF i hi R next d (j+1) (l ++ [⟨(i:Int),(j:Int)⟩]) (by omega) (by omega) (by simp;omega)
   rw[List.append_assoc]at ih
   rw[List.append_assoc]
   exact ev_neg (by simp) (ev_pos (by omega) ih)
  ·rw[h,decide_eq_false g,if_neg (by simp),List.nil_append]
   have ih:=cr_l1 ps hp hn F hF i hi R next d (j+1) l (by omega) (by omega) (by omega)
   exact ev_if (fun _=>ev_neg (by simp) ih) (fun _=>ih)
theorem cr_l0 (ps:List (List Int)) (hp: ∀x∈ps,x.length=2) (hn:ps.length≤1000) (F:Nat→Nat→Bool) (hF: ∀(i j:Nat) (hi:i<ps.length) (hj:j<ps.length),i<j→F i j=decide (crP false ps[i] ps[j])):
  ∀(D i:Nat) (l:List S61),i+D=ps.length→l.length≤i*1000→
  Ev (fun k=>impl_crossings.l0 k false l ps ps (ps.length:Int) (i:Int)) (l ++ crL0 F ps.length D i)
 |0,i,l,hd,hb=>by
  refine ev_succ ?_
  simp only[impl_crossings.l0,crL0]
  exact ev_neg (by omega) (ev_some (by simp))
 |D+1,i,l,hd,hb=>by
  have hi:i<ps.length:=by omega
  have h1:=cr_l1 ps hp hn F hF i hi (crL0 F ps.length D (i+1)) (fun l' hl'=>cr_l0 ps hp hn F hF D (i+1) l' (by omega) hl') (ps.length - (i+1)) (i+1) l (by omega) (by omega) (by omega)
  refine ev_succ ?_
  simp only[impl_crossings.l0,crL0]
  rw[w64s (i:=i) (by omega),rdL hi]
  exact ev_pos (by omega) (ev_pos (by omega) (ev_pos (by omega) h1))
theorem prL_get (w:List S51) (n:Nat) {i:Nat} (h:i<(prL w n).length):(prL w n)[i]=prW w i:=by simp[prL]
def fW (w:List S51) (i j:Nat):Bool:=decide (crP false (prW w i) (prW w j))
def crN (w:List S51):Int:=((crL0 (fW w) (w.length - 1) (w.length - 1) 0).length:Int)
theorem cross_ok {p:Pu} {w:List S51} (hp:okP p) (hw:okW p w):Ev (fun k=>impl_CrossingsOf.f k p.f0 p.f1 p.f2 w false) (crN w,0):=by
 have hlen:=okW_len hp hw
 have hpb:=hp
 obtain⟨g0,g1,g2,_⟩:=hpb
 obtain⟨c,_,e2,e3⟩:=code_ok p w (by omega)
 have hc:=e3.mpr ⟨hp,hw⟩
 subst hc
 obtain⟨_,i⟩:=parts_both w (by omega) p (fun j hj=>(hw.1 j hj).1)
 have hl:=prL_len w (w.length - 1)
 have h0:=cr_l0 (prL w (w.length - 1)) (prL_two w _) (by omega) (fW w) (fun i j hi hj _=>by rw[prL_get,prL_get];rfl) (prL w (w.length - 1)).length 0 [] (by omega) (by simp)
 rw[hl,List.nil_append]at h0
 simp only[impl_CrossingsOf.f,impl_crossings.f]
 refine Ev.bind e2 (ev_pos rfl (Ev.bind (Ev.bind i ?_) (ev_some rfl)))
 rw[hl];exact h0
theorem wsm (x:Int) (h: -100≤x∧x≤100):wrap64 x=x:=w64 (by omega) (by omega)
theorem plain_cross {p:Pu} (hp:okP p):crN (plL p (p.f0+p.f1).toNat)=0:=by
 obtain⟨g0,g1,g2,g3⟩:=hp
 have hN:(p.f0+p.f1).toNat≤8:=by omega
 generalize (p.f0+p.f1).toNat=N at*
 unfold crN
 rw[crL0_congr (G:=fun _ _=>false) (fun i j hij hj=>?_) _ _ (by omega),crL0_no];rfl
 rw[plL_len]at hj
 have e: ∀m,m<N→rd_T51 (plL p N) (m:Int)=plS p m:=by
  intro m hm
  rw[rdIStop (show m<(plL p N).length by rw[plL_len];exact hm),plL_get]
 unfold fW
 refine decide_eq_false ?_
 have hpr: ∀m,m+1<N→ ∃a b:Nat,prW (plL p N) m= [(a:Int),(b:Int)]∧m / 2≤a∧a≤(m+1) / 2∧m / 2≤b∧b≤(m+1) / 2:=by
  intro m hm
  unfold prW
  rw[e m (by omega),e (m+1) (by omega)]
  unfold plS
  dsimp only
  split
  ·exact⟨_,_,rfl,by omega,by omega,by omega,by omega⟩
  ·exact⟨_,_,rfl,by omega,by omega,by omega,by omega⟩
 obtain⟨a,b,e1,q1,q2,q3,q4⟩:=hpr i (by omega)
 obtain⟨a',b',e2,r1,r2,r3,r4⟩:=hpr j (by omega)
 unfold crP
 rw[e1,e2,if_neg (by simp)]
 show¬wrap64 (wrap64 ((a:Int) - (a':Int))*wrap64 ((b:Int) - (b':Int)))<0
 rw[wsm ((a:Int) - (a':Int)) (by omega),wsm ((b:Int) - (b':Int)) (by omega)]
 have ha:(a:Int) - (a':Int)= -((a' - a:Nat):Int):=by omega
 have hb:(b:Int) - (b':Int)= -((b' - b:Nat):Int):=by omega
 rw[ha,hb,Int.neg_mul_neg]
 have hx:a' - a≤4:=by omega
 have hy:b' - b≤4:=by omega
 have hm:(a' - a)*(b' - b)≤4*4:=Nat.mul_le_mul hx hy
 rw[← Int.natCast_mul,wsm _ (by omega)]
 omega
theorem mir_get (p:Pu) (w:List S51) {i:Nat} (h:i<(w.map (mirror p)).length):(w.map (mirror p))[i]=mirror p (w[i]'(by simpa using h)):=by simp
theorem many_bd {p:Pu} (hp:okP p) (b:Int):0≤manyB p b∧manyB p b≤4:=by
 obtain⟨g0,g1,_,_⟩:=hp
 unfold manyB;split <;> omega
theorem mir_f1 {p:Pu} (hp:okP p) {w:List S51} (hw:okW p w) {i:Nat} (h:i<w.length):mirror p w[i]=⟨w[i].f0,manyB p w[i].f0 - 1 - w[i].f1⟩:=by
 obtain⟨q1,q2,_⟩:=hw.1 i h
 rw[← q1]at q2
 have:=many_bd hp w[i].f0
 unfold mirror
 rw[wsm (manyB p w[i].f0 - 1) (by omega),wsm _ (by omega)]
theorem mir_okW {p:Pu} (hp:okP p) {w:List S51} (hw:okW p w):okW p (w.map (mirror p)):=by
 refine⟨fun j hj=>?_,by rw[List.length_map];exact hw.2⟩
 have hj':j<w.length:=by simpa using hj
 obtain⟨q1,q2,q3⟩:=hw.1 j hj'
 have hb:=many_bd hp (blockB p (j:Int))
 unfold okS
 rw[mir_get,mir_f1 hp hw hj']
 refine⟨q1,by dsimp only;rw[q1];omega,?_⟩
 unfold wF at q3 ⊢
 rw[List.any_eq_false]at q3 ⊢
 intro y hy
 obtain⟨i,hi,rfl⟩:=List.mem_iff_getElem.mp hy
 rw[List.length_take]at hi
 have hi':i<w.length:=by omega
 rw[List.getElem_take,mir_get,mir_f1 hp hw hi']
 have:=q3 w[i] (List.mem_iff_getElem.mpr ⟨i,by rw[List.length_take];omega,by rw[List.getElem_take]⟩)
 dsimp only
 simp only[Bool.and_eq_true,beq_iff_eq,not_and]at this ⊢
 intro e1 e2
 rw[e1]at e2
 exact this e1 (by omega)
theorem mir_mir {p:Pu} (hp:okP p) {w:List S51} (hw:okW p w):(w.map (mirror p)).map (mirror p)=w:=by
 have aA:=mir_okW hp hw
 refine List.ext_getElem (by simp) (fun i h1 h2=>?_)
 have h3:i<(w.map (mirror p)).length:=by simpa using h2
 rw[List.getElem_map,mir_f1 hp aA h3,mir_get,mir_f1 hp hw h2]
 dsimp only
 rw[show manyB p w[i].f0 - 1 - (manyB p w[i].f0 - 1 - w[i].f1)=w[i].f1 by omega]
theorem mir_cross {p:Pu} (hp:okP p) {w:List S51} (hw:okW p w):crN (w.map (mirror p))=crN w:=by
 have hlen:=okW_len hp hw
 have hpb:=hp
 obtain⟨g0,g1,g2,_⟩:=hpb
 unfold crN
 rw[List.length_map]
 rw[crL0_congr (G:=fW w) (fun i j hij hj=>?_) _ _ (by omega)]
 have e: ∀m (hm:m<w.length),rd_T51 (w.map (mirror p)) (m:Int)=⟨w[m].f0,manyB p w[m].f0 - 1 - w[m].f1⟩:=by
  intro m hm
  rw[rdIStop (show m<(w.map (mirror p)).length by rw[List.length_map];exact hm),mir_get,mir_f1 hp hw hm]
 have hpr: ∀m (hm:m+1<w.length),∃a b:Int,prW w m= [a,b]∧prW (w.map (mirror p)) m= [p.f0 - 1 - a,p.f1 - 1 - b]∧(0≤a∧a≤4)∧(0≤b∧b≤4):=by
  intro m hm
  obtain⟨q1,q2,_⟩:=hw.1 m (by omega)
  obtain⟨r1,r2,_⟩:=hw.1 (m+1) hm
  have bn:=blockB_next p (m:Int)
  rw[show((m:Int)+1)=((m+1:Nat):Int) by omega,← q1,← r1]at bn
  rw[← q1]at q2
  rw[← r1]at r2
  have aA:=blockB_01 p (m:Int)
  rw[← q1]at aA
  unfold prW
  rw[e m (by omega),e (m+1) hm,rdIStop (show m<w.length by omega),rdIStop hm]
  dsimp only
  unfold manyB at*
  rcases aA with z|z
  ·have z1:w[m+1].f0=1:=by omega
   rw[z]at q2
   rw[z1]at r2
   rw[z,z1]
   simp only[show¬((1:Int)=0)from by decide,if_false,if_true]at*
   exact⟨_,_,rfl,rfl,by omega,by omega⟩
  ·have z1:w[m+1].f0=0:=by omega
   rw[z]at q2
   rw[z1]at r2
   rw[z,z1]
   simp only[show¬((1:Int)=0)from by decide,if_false,if_true]at*
   exact⟨_,_,rfl,rfl,by omega,by omega⟩
 obtain⟨a,b,e1,e2,q1,q2⟩:=hpr i (by omega)
 obtain⟨a',b',e3,e4,r1,r2⟩:=hpr j (by omega)
 unfold fW
 rw[e1,e2,e3,e4]
 rw[decide_eq_decide]
 unfold crP
 rw[if_neg (by simp),if_neg (by simp)]
 show(wrap64 (wrap64 (p.f0 - 1 - a - (p.f0 - 1 - a'))*wrap64 (p.f1 - 1 - b - (p.f1 - 1 - b')))<0)↔(wrap64 (wrap64 (a - a')*wrap64 (b - b'))<0)
 rw[wsm (p.f0 - 1 - a - (p.f0 - 1 - a')) (by omega),wsm (p.f1 - 1 - b - (p.f1 - 1 - b')) (by omega),wsm (a - a') (by omega),wsm (b - b') (by omega),show p.f0 - 1 - a - (p.f0 - 1 - a')= -(a - a') by omega,show p.f1 - 1 - b - (p.f1 - 1 - b')= -(b - b') by omega,Int.neg_mul_neg]
def splW:List UInt8→List (List UInt8)
 |[]=>[[]]
 |c :: cs=>if c=32 then [] :: splW cs else match splW cs with
  |[]=>[[c]]
  |w :: ws=>(c :: w) :: ws
theorem splW_ne: ∀l,splW l≠[]
 |[]=>by simp[splW]
 |c :: cs=>by
  unfold splW
  split
  ·simp
  ·split <;> simp
theorem index_cons (c:UInt8) (cs:List UInt8):Go.Lib.index (c :: cs) [32]=if c=32 then 0 else if Go.Lib.index cs [32]= -1 then -1 else Go.Lib.index cs [32]+1:=by
 conv=>lhs;unfold Go.Lib.index
 by_cases h:c=32
 ·subst h
  simp
 ·have h2:(32:UInt8)≠c:=fun e=>h e.symm
  have h1:List.isPrefixOf [(32:UInt8)] (c :: cs)=false:=by simp[List.isPrefixOf,h2]
  rw[h1,if_neg h]
  simp
theorem splitK_W: ∀l:List UInt8,Go.Lib.splitK [32] 0 (Go.Lib.count l [32]) l=splW l
 |[]=>rfl
 |c :: cs=>by
  have ih:=splitK_W cs
  have hi:=index_cons c cs
  by_cases h:c=32
  ·rw[if_pos h]at hi
   have hc:Go.Lib.count (c :: cs) [32]=1+Go.Lib.count cs [32]:=by
    have:=Go.Lib.count_hit (s:=c :: cs) (sub:=[32]) (i:=0) (by simp) hi
    simpa using this
   rw[hc,Nat.add_comm]
   unfold Go.Lib.splitK splW
   rw[hi,if_pos h,← ih]
   simp
  ·rw[if_neg h]at hi
   have hge:=Go.Lib.index_ge cs [32]
   by_cases hm:Go.Lib.index cs [32]= -1
   ·rw[if_pos hm]at hi
    have hc:Go.Lib.count (c :: cs) [32]=0:=Go.Lib.count_miss hi
    have aA:Go.Lib.count cs [32]=0:=Go.Lib.count_miss hm
    rw[aA]at ih
    rw[hc]
    have ih: [cs]=splW cs:=ih
    unfold splW
    rw[if_neg h,← ih]
    rfl
   ·rw[if_neg hm]at hi
    obtain⟨i,hx⟩: ∃i:Nat,Go.Lib.index cs [32]=(i:Int):=⟨(Go.Lib.index cs [32]).toNat,by omega⟩
    rw[hx]at hi
    have hi:Go.Lib.index (c :: cs) [32]=((i+1:Nat):Int):=by rw[hi];omega
    have c1:Go.Lib.count (c :: cs) [32]=1+Go.Lib.count (cs.drop (i+1)) [32]:=by
     have:=Go.Lib.count_hit (s:=c :: cs) (sub:=[32]) (i:=i+1) (by simp) hi
     simpa using this
    have c2:Go.Lib.count cs [32]=1+Go.Lib.count (cs.drop (i+1)) [32]:=by
     have:=Go.Lib.count_hit (s:=cs) (sub:=[32]) (i:=i) (by simp) hx
     simpa using this
    rw[c2,Nat.add_comm]at ih
    rw[c1,Nat.add_comm]
    unfold Go.Lib.splitK at ih
    rw[hx]at ih
    have e1:(((i:Nat):Int) == -1)=false:=by rw[beq_eq_false_iff_ne];omega
    rw[e1]at ih
    unfold Go.Lib.splitK splW
    rw[hi,if_neg h,← ih]
    have e2:(((i+1:Nat):Int) == -1)=false:=by rw[beq_eq_false_iff_ne];omega
    rw[e2]
    simp
def ba (l:List UInt8):ByteArray:=⟨l.toArray⟩
theorem ba_self (x:ByteArray):ba x.data.toList=x:=by apply ByteArray.ext;simp[ba]
theorem ba_list (l:List UInt8):(ba l).data.toList=l:=by simp[ba]
theorem ba_ext {x y:ByteArray} (h:x.data.toList=y.data.toList):x=y:=by rw[← ba_self x,h,ba_self]
theorem bt_list {x:ByteArray} {i:Nat} (h:i<x.data.toList.length):bt x (i:Int)=(x.data.toList[i].toNat:Int):=by
 have hs:(i:Int).toNat<x.size:=by rw[Go.Lib.size_eq];simpa using h
 unfold bt
 rw[dif_pos hs]
 rfl
theorem ext_ba (x:ByteArray) (a b:Nat) (hb:b≤x.size):x.extract a b=ba ((x.data.toList.take b).drop a):=by
 apply ba_ext
 rw[ba_list,Go.Lib.extract_data]
 simp[List.drop_take]
theorem specSplit_l0 (x:ByteArray) (hx:x.size≤1048576): ∀(d i f:Nat) (out:List ByteArray),i+d=x.size→f≤i→out.length≤i→
  ∃w ws,splW (x.data.toList.drop i)=w :: ws∧Ev (fun k=>spec_l01Split.l0 k x 32 out (f:Int) (i:Int)) (out ++ ba ((x.data.toList.take i).drop f ++ w) :: ws.map ba)
 |0,i,f,out,hd,hf,ho=>by
  have hs:=Go.Lib.size_eq x
  have e:x.data.toList.drop i= []:=by rw[List.drop_eq_nil_iff];omega
  refine⟨[],[],by rw[e];rfl,ev_succ ?_⟩
  simp only[spec_l01Split.l0]
  refine ev_neg (by omega) (ev_pos (by omega) (ev_pos (by omega) (ev_pos (by omega) (ev_some ?_))))
  rw[List.append_nil,Int.toNat_natCast,ext_ba x f x.size (Nat.le_refl _),show i=x.size by omega]
  rfl
 |d+1,i,f,out,hd,hf,ho=>by
  have hs:=Go.Lib.size_eq x
  have hi:i<x.data.toList.length:=by omega
  have hb:=bt_list hi
  have hdrop:x.data.toList.drop i=x.data.toList[i] :: x.data.toList.drop (i+1):=List.drop_eq_getElem_cons hi
  by_cases c:x.data.toList[i]=32
  ·obtain⟨w,ws,e1,e2⟩:=specSplit_l0 x hx d (i+1) (i+1) (out ++ [x.extract f i]) (by omega) (Nat.le_refl _) (by simp;omega)
   refine⟨[],w :: ws,by rw[hdrop,splW,if_pos c,e1],ev_succ ?_⟩
   simp only[spec_l01Split.l0]
   rw[w64s (i:=i) (by omega),Int.toNat_natCast,Int.toNat_natCast]
   refine ev_pos (by omega) (ev_pos (by omega) (ev_pos (by rw[hb,c];rfl) (ev_pos (by omega) (ev_pos (by omega) (ev_pos (by omega) (ev_pos (by omega) ?_))))))
   have e3:(x.data.toList.take (i+1)).drop (i+1)= []:=by rw[List.drop_eq_nil_iff];simp;omega
   rw[e3,List.nil_append]at e2
   rw[ext_ba x f i (by omega)]at e2 ⊢
   rw[List.append_nil,List.map_cons]
   simpa [List.append_assoc] using e2
  ·obtain⟨w,ws,e1,e2⟩:=specSplit_l0 x hx d (i+1) f out (by omega) (by omega) (by omega)
   refine⟨x.data.toList[i] :: w,ws,by rw[hdrop,splW,if_neg c,e1],ev_succ ?_⟩
   simp only[spec_l01Split.l0]
   rw[w64s (i:=i) (by omega)]
   refine ev_pos (by omega) (ev_pos (by omega) (ev_neg ?_ ?_))
   ·rw[hb]
    intro h
    apply c
    apply UInt8.toNat_inj.mp
    have:(x.data.toList[i]).toNat=32:=by omega
    rw[this];rfl
   ·have e3:(x.data.toList.take (i+1)).drop f=(x.data.toList.take i).drop f ++ [x.data.toList[i]]:=by
     rw[List.take_add_one,List.getElem?_eq_getElem hi,List.drop_append_of_le_length (by simp;omega)]
     rfl
    rw[e3,List.append_assoc]at e2
    exact e2
theorem specSplit_ev (x:ByteArray) (hx:x.size≤1048576):Ev (fun k=>spec_l01Split.f k x 32) ((splW x.data.toList).map ba):=by
 obtain⟨w,ws,e1,e2⟩:=specSplit_l0 x hx x.size 0 0 [] (by omega) (Nat.le_refl _) (by simp)
 rw[List.drop_zero]at e1
 simp only[spec_l01Split.f]
 rw[e1]
 simpa using e2
theorem implSplit_eq (x:ByteArray) (hx:x.size≤1048576):strings_Split.f x (⟨#[32]⟩:ByteArray)=some ((splW x.data.toList).map ba):=by
 unfold strings_Split.f
 rw[if_pos (by omega),if_pos (by decide)]
 have h:=Go.Lib.splitB_data (⟨#[32]⟩:ByteArray) 0 (Go.Lib.countB x (⟨#[32]⟩:ByteArray)) x
 have h2:Go.Lib.splitK [32] 0 (Go.Lib.countB x (⟨#[32]⟩:ByteArray)) x.data.toList=splW x.data.toList:=splitK_W x.data.toList
 have h3:(⟨#[32]⟩:ByteArray).data.toList= [32]:=rfl
 rw[h3,h2]at h
 rw[← h,List.map_map]
 congr 1
 symm
 rw[List.map_congr_left (g:=id) (fun y _=>by simp[ba_self])]
 simp
theorem splW_len: ∀l,(splW l).length≤l.length+1
 |[]=>by simp[splW]
 |c :: cs=>by
  have ih:=splW_len cs
  unfold splW
  split
  ·simp;omega
  ·split
   ·simp
   ·rename_i e
    rw[e]at ih
    simp at ih ⊢;omega
theorem bt_rng (s:ByteArray) (i:Int):0≤bt s i∧bt s i≤255:=by
 unfold bt
 by_cases h:i.toNat<s.size
 ·rw[dif_pos h]
  have:=UInt8.toNat_lt (s[i.toNat]'h)
  omega
 ·rw[dif_neg h];omega
theorem p18: ∀i:Fin 19,(10:Int) ^ i.val≤1000000000000000000:=by decide
theorem decOf (n:Int) (h0: -9223372036854775808≤n) (h1:n≤9223372036854775807):impl_Decimal.f n=some (ba (Go.Lib.itoa n)):=by
 unfold impl_Decimal.f;rw[if_pos h0,if_pos h1];rfl
theorem dec_l0 (t g:ByteArray) (hg:g.size≤18): ∀(d i:Nat) (n:Int),i+d=g.size→0≤n→n<10 ^ i→
  ∃r:Int×Bool,Ev (fun k=>impl_ReadDecimal.l0 k t g n (i:Int)) r∧(r.2=true→t.data.toList=Go.Lib.itoa r.1)
 |0,i,n,hd,h0,h1=>by
  have hp:=p18 ⟨i,by omega⟩
  have hp:(10:Int) ^ i≤1000000000000000000:=hp
  have hn:wrap64 (-n)= -n:=w64 (by omega) (by omega)
  have key: ∀m:Int,-9223372036854775808≤m→m≤9223372036854775807→ ∃r:Int×Bool,Ev (fun k=>(impl_Decimal.f m).bind fun aA=>(if aA.toList=t.toList then(some (m,true))else(some (0,false)))) r∧(r.2=true→t.data.toList=Go.Lib.itoa r.1):=by
   intro m m0 m1
   by_cases e:(ba (Go.Lib.itoa m)).toList=t.toList
   ·refine⟨(m,true),ev_now (decOf m m0 m1) (ev_pos e (Ev.now _)),fun _=>?_⟩
    rw[Go.Lib.toList_data,Go.Lib.toList_data,ba_list]at e
    exact e.symm
   ·exact⟨(0,false),ev_now (decOf m m0 m1) (ev_neg e (Ev.now _)),fun h=>by cases h⟩
  by_cases c:(g.size:Int)<(t.size:Int)
  ·obtain⟨r,e1,e2⟩:=key (-n) (by omega) (by omega)
   refine⟨r,ev_succ ?_,e2⟩
   simp only[impl_ReadDecimal.l0]
   rw[hn]
   exact ev_neg (by omega) (ev_pos c e1)
  ·obtain⟨r,e1,e2⟩:=key n (by omega) (by omega)
   refine⟨r,ev_succ ?_,e2⟩
   simp only[impl_ReadDecimal.l0]
   exact ev_neg (by omega) (ev_neg c e1)
 |d+1,i,n,hd,h0,h1=>by
  have hp:(10:Int) ^ (i+1)≤1000000000000000000:=p18 ⟨i+1,by omega⟩
  have hb:=bt_rng g (i:Int)
  by_cases c1:bt g (i:Int)<48
  ·refine⟨(0,false),ev_succ ?_,fun h=>by cases h⟩
   simp only[impl_ReadDecimal.l0]
   exact ev_pos (by omega) (ev_pos (by omega) (ev_pos c1 (Ev.now _)))
  by_cases c2:bt g (i:Int) > 57
  ·refine⟨(0,false),ev_succ ?_,fun h=>by cases h⟩
   simp only[impl_ReadDecimal.l0]
   exact ev_pos (by omega) (ev_pos (by omega) (ev_neg c1 (ev_pos c2 (Ev.now _))))
  have hm:(bt g (i:Int) - 48) % 256=bt g (i:Int) - 48:=by omega
  rw[Int.pow_succ]at hp
  obtain⟨r,e1,e2⟩:=dec_l0 t g hg d (i+1) (10*n+(bt g (i:Int) - 48)) (by omega) (by omega) (by rw[Int.pow_succ];omega)
  refine⟨r,ev_succ ?_,e2⟩
  simp only[impl_ReadDecimal.l0]
  rw[hm,w64 (x:=10*n) (by omega) (by omega),w64 (x:=10*n+(bt g (i:Int) - 48)) (by omega) (by omega),w64s (by omega)]
  exact ev_pos (by omega) (ev_pos (by omega) (ev_neg c1 (ev_neg c2 e1)))
theorem dec_ev (t:ByteArray): ∃r:Int×Bool,Ev (fun k=>impl_ReadDecimal.f k t) r∧(r.2=true→t.data.toList=Go.Lib.itoa r.1):=by
 simp only[impl_ReadDecimal.f]
 have hp:strings_TrimPrefix.f t (⟨#[45]⟩:ByteArray)=some (ba (Go.Lib.trimPrefix t.data.toList [45])):=rfl
 generalize ba (Go.Lib.trimPrefix t.data.toList [45])=g at hp
 have jt:Ev (fun k=>impl_ReadDecimal.j0 k t g true) (0,false):=by
  refine ev_succ ?_;simp only[impl_ReadDecimal.j0];exact ev_pos (by trivial) (Ev.now _)
 by_cases c1:(g.size:Int)<1
 ·exact⟨(0,false),ev_now hp (ev_pos c1 jt),fun h=>by cases h⟩
 by_cases c2:(g.size:Int) > 18
 ·refine⟨(0,false),ev_now hp (ev_neg c1 ?_),fun h=>by cases h⟩
  rw[decide_eq_true c2];exact jt
 ·obtain⟨r,e1,e2⟩:=dec_l0 t g (by omega) g.size 0 0 (by omega) (by omega) (by simp)
  refine⟨r,ev_now hp (ev_neg c1 ?_),e2⟩
  rw[decide_eq_false c2]
  refine ev_succ ?_;simp only[impl_ReadDecimal.j0]
  exact ev_neg (by simp) e1
theorem dec_digit (t:ByteArray) (d:Nat) (hd:d<10) (ht:t.data.toList= [UInt8.ofNat (48+d)]):Ev (fun k=>impl_ReadDecimal.f k t) ((d:Int),true):=by
 have hs:t.size=1:=by rw[Go.Lib.size_eq,ht];rfl
 have hb:bt t 0=((48+d:Nat):Int):=by
  have:=bt_list (x:=t) (i:=0) (by rw[ht];simp)
  have e:t.data.toList[0]'(by rw[ht];simp)=UInt8.ofNat (48+d):=by simp[ht]
  rw[e]at this
  rw[show((0:Nat):Int)=0 from rfl]at this
  rw[this,UInt8.toNat_ofNat']
  congr 1
  omega
 have htrim:Go.Lib.trimPrefix t.data.toList [45]=t.data.toList:=by
  rw[ht]
  have:d=0∨d=1∨d=2∨d=3∨d=4∨d=5∨d=6∨d=7∨d=8∨d=9:=by omega
  rcases this with rfl|rfl|rfl|rfl|rfl|rfl|rfl|rfl|rfl|rfl <;> rfl
 have hi:Go.Lib.itoa (d:Int)= [UInt8.ofNat (48+d)]:=by
  unfold Go.Lib.itoa
  rw[if_neg (by omega)]
  unfold Go.Lib.decDigits
  rw[dif_pos (by omega)]
  rfl
 have hp:strings_TrimPrefix.f t (⟨#[45]⟩:ByteArray)=some t:=by
  show some (ba (Go.Lib.trimPrefix t.data.toList [45]))=some t
  rw[htrim,ba_self]
 simp only[impl_ReadDecimal.f]
 refine ev_now hp (ev_neg (by omega) ?_)
 rw[decide_eq_false (by omega)]
 refine ev_succ ?_;simp only[impl_ReadDecimal.j0]
 refine ev_neg (by simp) ?_
 refine ev_succ ?_;simp only[impl_ReadDecimal.l0]
 rw[hb]
 have e1:wrap64 (wrap64 (10*0)+(((48+d:Nat):Int) - 48) % 256)=(d:Int):=by
  rw[w64 (x:=10*0) (by omega) (by omega),w64 (by omega) (by omega)];omega
 have e2:wrap64 (0+1)=1:=by rw[w64 (by omega) (by omega)];rfl
 rw[e1,e2]
 refine ev_pos (by omega) (ev_pos (by omega) (ev_neg (by omega) (ev_neg (by omega) ?_)))
 refine ev_succ ?_;simp only[impl_ReadDecimal.l0]
 refine ev_neg (by omega) (ev_neg (by omega) (ev_now (decOf _ (by omega) (by omega)) (ev_pos ?_ (Ev.now _))))
 rw[Go.Lib.toList_data,Go.Lib.toList_data,ba_list,hi,ht]
def okWd (w:ByteArray):Prop:=w.size=2∧(bt w 0=102∨bt w 0=109)∧48≤bt w 1∧bt w 1<52
instance (w:ByteArray):Decidable (okWd w):=inferInstanceAs (Decidable (_∧_∧_∧_))
def stW (w:ByteArray):S51:=⟨if bt w 0=109 then 1 else 0,bt w 1 - 48⟩
theorem rdOf_at {L:List ByteArray} {i:Nat} (h:i<L.length):rdOf ByteArray.empty L (i:Int)=L[i]:=by
 unfold rdOf;simp[List.getD_eq_getElem?_getD,h]
theorem all_dropW {L:List ByteArray} {i:Nat} (h:i<L.length):(∀w∈L.drop i,okWd w)↔okWd L[i]∧ ∀w∈L.drop (i+1),okWd w:=by
 rw[List.drop_eq_getElem_cons h];exact List.forall_mem_cons
theorem specWay_l0 (L:List ByteArray) (hL:L.length≤1048577): ∀(d i:Nat) (out:List S51),i+d=L.length→out.length=i→
  Ev (fun k=>spec_ReadWay.l0 k L out (i:Int)) (if(∀w∈L.drop i,okWd w)∧L.length≤8 then(out ++ (L.drop i).map stW,true)else([],false))
 |0,i,out,hd,ho=>by
  have e:L.drop i= []:=by rw[List.drop_eq_nil_iff];omega
  refine ev_succ ?_
  simp only[spec_ReadWay.l0]
  rw[e]
  refine ev_neg (by omega) (ev_if (fun h=>ev_some ?_) (fun h=>ev_some ?_))
  ·rw[if_neg (fun g=>by have:=g.2;omega)]
  ·rw[if_pos ⟨fun w hw=>(by cases hw),by omega⟩];simp
 |d+1,i,out,hd,ho=>by
  have hi:i<L.length:=by omega
  have jt:Ev (fun k=>spec_ReadWay.j1 k L out (i:Int) true) ([],false):=by
   refine ev_succ ?_;simp only[spec_ReadWay.j1];exact ev_pos (by trivial) (Ev.now _)
  have aA:=bt_rng L[i] 1
  by_cases ok:okWd L[i]
  ·obtain⟨o1,o2,o3,o4⟩:=ok
   have ih:=specWay_l0 L hL d (i+1) (out ++ [stW L[i]]) (by omega) (by simp;omega)
   have e:(if(∀w∈L.drop i,okWd w)∧L.length≤8 then(out ++ (L.drop i).map stW,true)else(([]:List S51),false))=(if(∀w∈L.drop (i+1),okWd w)∧L.length≤8 then((out ++ [stW L[i]]) ++ (L.drop (i+1)).map stW,true)else([],false)):=by
    by_cases q:(∀w∈L.drop (i+1),okWd w)∧L.length≤8
    ·rw[if_pos q,if_pos ⟨(all_dropW hi).mpr ⟨⟨o1,o2,o3,o4⟩,q.1⟩,q.2⟩,List.drop_eq_getElem_cons hi,List.map_cons,List.append_assoc]
     rfl
    ·rw[if_neg q,if_neg (fun g=>q ⟨((all_dropW hi).mp g.1).2,g.2⟩)]
   rw[e]
   have j1:Ev (fun k=>spec_ReadWay.j1 k L out (i:Int) false) (if(∀w∈L.drop (i+1),okWd w)∧L.length≤8 then((out ++ [stW L[i]]) ++ (L.drop (i+1)).map stW,true)else([],false)):=by
    refine ev_succ ?_;simp only[spec_ReadWay.j1]
    rw[rdOf_at hi,w64s (by omega)]
    refine ev_neg (by simp) (ev_pos (by omega) (ev_pos (by omega) (ev_pos (by omega) (ev_pos (by omega) (ev_if (fun h=>ev_pos (by omega) ?_) (fun h=>ev_pos (by omega) ?_))))))
    ·have es:(⟨1,(bt L[i] 1 - 48) % 256⟩:S51)=stW L[i]:=by unfold stW;rw[if_pos h,show(bt L[i] 1 - 48) % 256=bt L[i] 1 - 48 by omega]
     rw[es];exact ih
    ·have es:(⟨0,(bt L[i] 1 - 48) % 256⟩:S51)=stW L[i]:=by unfold stW;rw[if_neg h,show(bt L[i] 1 - 48) % 256=bt L[i] 1 - 48 by omega]
     rw[es];exact ih
   have ed:decide (bt L[i] 1≥52)=false:=decide_eq_false (by omega)
   refine ev_succ ?_;simp only[spec_ReadWay.l0]
   rw[rdOf_at hi,ed]
   refine ev_pos (by omega) (ev_pos (by omega) (ev_pos (by omega) (ev_pos (by omega) (ev_if (fun h=>ev_pos (by omega) (ev_neg (by omega) j1)) (fun h=>ev_pos (by omega) (ev_pos (by omega) (ev_neg (by omega) j1)))))))
  ·rw[if_neg (fun g=>ok ((all_dropW hi).mp g.1).1)]
   refine ev_succ ?_;simp only[spec_ReadWay.l0]
   rw[rdOf_at hi]
   refine ev_pos (by omega) (ev_pos (by omega) (ev_if (fun h2=>ev_pos (by omega) ?_) (fun _=>jt)))
   have fin:(bt L[i] 0=102∨bt L[i] 0=109)→ ¬bt L[i] 1<48→Ev (fun k=>spec_ReadWay.j1 k L out (i:Int) (decide (bt L[i] 1≥52))) ([],false):=by
    intro h0 h1
    rw[decide_eq_true (show bt L[i] 1≥52 by
     by_cases h:bt L[i] 1<52
     ·exact absurd ⟨by omega,h0,by omega,h⟩ ok
     ·omega)]
    exact jt
   refine ev_if (fun h=>ev_pos (by omega) (ev_if (fun _=>jt) (fun h1=>fin (.inl h) h1))) (fun h=>ev_if (fun h'=>ev_pos (by omega) (ev_if (fun _=>jt) (fun h1=>fin (.inr h') h1))) (fun _=>jt))
theorem itoa_one {n:Int} (h0:0≤n) (h1:n≤3):Go.Lib.itoa n= [UInt8.ofNat (48+n.toNat)]:=by
 unfold Go.Lib.itoa
 rw[if_neg (by omega)]
 unfold Go.Lib.decDigits
 rw[dif_pos (by omega)]
theorem word_dec (w:ByteArray) (h1:1≤w.size): ∃r:Int×Bool,Ev (fun k=>impl_ReadDecimal.f k (w.extract 1 w.size)) r∧((r.2=true∧0≤r.1∧r.1≤3)↔(w.size=2∧48≤bt w 1∧bt w 1<52))∧((r.2=true∧0≤r.1∧r.1≤3)→r.1=bt w 1 - 48):=by
 have hs:=Go.Lib.size_eq w
 have ht:(w.extract 1 w.size).data.toList=w.data.toList.drop 1:=Go.Lib.extract_to_end w 1
 by_cases c:w.size=2∧48≤bt w 1∧bt w 1<52
 ·obtain⟨c1,c2,c3⟩:=c
  have hl:1<w.data.toList.length:=by omega
  have hb:=bt_list hl
  have hb:bt w 1=(w.data.toList[1].toNat:Int):=hb
  obtain⟨d,hd⟩: ∃d:Nat,bt w 1=((48+d:Nat):Int)∧d<4:=⟨(bt w 1 - 48).toNat,by omega,by omega⟩
  have hx:w.data.toList.drop 1= [UInt8.ofNat (48+d)]:=by
   rw[List.drop_eq_getElem_cons hl,List.drop_eq_nil_iff.mpr (by omega)]
   congr 1
   apply UInt8.toNat_inj.mp
   rw[UInt8.toNat_ofNat']
   omega
  refine⟨((d:Int),true),dec_digit _ d (by omega) (by rw[ht,hx]),⟨fun _=>⟨c1,c2,c3⟩,fun _=>⟨rfl,by show(0:Int)≤d;omega,by show(d:Int)≤3;omega⟩⟩,fun _=>?_⟩
  show(d:Int)=_
  omega
 ·obtain⟨r,e1,e2⟩:=dec_ev (w.extract 1 w.size)
  have hno: ¬(r.2=true∧0≤r.1∧r.1≤3):=by
   rintro⟨q1,q2,q3⟩
   apply c
   have e:=e2 q1
   rw[ht,itoa_one q2 q3]at e
   have hl:w.data.toList.length=2:=by
    have:=congrArg List.length e
    simp at this
    have:w.data.toList.length - 1=1:=by simpa using this
    omega
   have aA:1<w.data.toList.length:=by omega
   have hb:bt w 1=(w.data.toList[1].toNat:Int):=bt_list aA
   rw[List.drop_eq_getElem_cons aA]at e
   have e3:w.data.toList[1]=UInt8.ofNat (48+r.1.toNat):=(List.cons.inj e).1
   rw[e3,UInt8.toNat_ofNat']at hb
   omega
  exact⟨r,e1,⟨fun h=>absurd h hno,fun h=>absurd h c⟩,fun h=>absurd h hno⟩
theorem implWay_l0 (L:List ByteArray) (hL:L.length≤8): ∀(d i:Nat) (out:List S51),i+d=L.length→out.length=i→
  Ev (fun k=>impl_ReadWay.l0 k out L (L.length:Int) (i:Int)) (if∀w∈L.drop i,okWd w then(out ++ (L.drop i).map stW,true)else([],false))
 |0,i,out,hd,ho=>by
  have e:L.drop i= []:=by rw[List.drop_eq_nil_iff];omega
  refine ev_succ ?_
  simp only[impl_ReadWay.l0]
  rw[e]
  refine ev_neg (by omega) (ev_some ?_)
  rw[if_pos (fun w hw=>(by cases hw))];simp
 |d+1,i,out,hd,ho=>by
  have hi:i<L.length:=by omega
  have ih:=implWay_l0 L hL d (i+1)
  have jt: ∀w:ByteArray,Ev (fun k=>impl_ReadWay.j1 k out w L (L.length:Int) (i:Int) true) ([],false):=by
   intro w
   refine ev_succ ?_;simp only[impl_ReadWay.j1];exact ev_pos (by trivial) (Ev.now _)
  have aA: ∀(w:ByteArray) (n:Int),Ev (fun k=>impl_ReadWay.j2 k out w n L (L.length:Int) (i:Int) true) ([],false):=by
   intro w n
   refine ev_succ ?_;simp only[impl_ReadWay.j2];exact ev_pos (by trivial) (Ev.now _)
  have hs:=Go.Lib.size_eq L[i]
  refine ev_succ ?_;simp only[impl_ReadWay.l0]
  rw[rdOf_at hi]
  refine ev_pos (by omega) (ev_pos (by omega) (ev_pos (by omega) (ev_if (fun h=>?_) (fun h=>?_))))
  ·rw[Go.Lib.toList_data]at h
   rw[if_neg (fun g=>by
    have:=((all_dropW hi).mp g).1.1
    rw[hs,h]at this
    cases this)]
   exact jt _
  ·have hpos:1≤L[i].size:=by
    rw[Go.Lib.toList_data]at h
    rw[hs]
    exact List.length_pos_iff.mpr h
   have go:(bt L[i] 0=102∨bt L[i] 0=109)→Ev (fun k=>impl_ReadWay.j1 k out L[i] L (L.length:Int) (i:Int) false) (if∀w∈L.drop i,okWd w then(out ++ (L.drop i).map stW,true)else([],false)):=by
    intro h0
    obtain⟨r,e1,e2,e3⟩:=word_dec L[i] hpos
    refine ev_succ ?_;simp only[impl_ReadWay.j1]
    refine ev_neg (by simp) (ev_pos (by omega) (Ev.bind e1 ?_))
    by_cases q:r.2=true∧0≤r.1∧r.1≤3
    ·have hq:=e2.mp q
     have ok:okWd L[i]:=⟨hq.1,h0,hq.2.1,hq.2.2⟩
     have hw:impl_within.f r.1 0 3=some true:=by rw[within_eq,decide_eq_true ⟨q.2.1,q.2.2⟩]
     refine ev_pos q.1 (ev_now hw ?_)
     refine ev_succ ?_;simp only[impl_ReadWay.j2]
     rw[w64s (by omega),e3 q]
     have ih:=ih (out ++ [stW L[i]]) (by omega) (by simp;omega)
     have e:(if∀w∈L.drop i,okWd w then(out ++ (L.drop i).map stW,true)else(([]:List S51),false))=(if∀w∈L.drop (i+1),okWd w then((out ++ [stW L[i]]) ++ (L.drop (i+1)).map stW,true)else([],false)):=by
      by_cases q: ∀w∈L.drop (i+1),okWd w
      ·rw[if_pos q,if_pos ((all_dropW hi).mpr ⟨ok,q⟩),List.drop_eq_getElem_cons hi,List.map_cons,List.append_assoc]
       rfl
      ·rw[if_neg q,if_neg (fun g=>q ((all_dropW hi).mp g).2)]
     rw[e]
     refine ev_neg (by simp) (ev_pos (by omega) (ev_if (fun h=>ev_pos (by omega) ?_) (fun h=>ev_pos (by omega) ?_)))
     ·have es:(⟨1,bt L[i] 1 - 48⟩:S51)=stW L[i]:=by unfold stW;rw[if_pos h]
      rw[es];exact ih
     ·have es:(⟨0,bt L[i] 1 - 48⟩:S51)=stW L[i]:=by unfold stW;rw[if_neg h]
      rw[es];exact ih
    ·rw[if_neg (fun g=>by
      have g:=((all_dropW hi).mp g).1
      exact q (e2.mpr ⟨g.1,g.2.2.1,g.2.2.2⟩))]
     refine ev_if (fun h2=>?_) (fun _=>aA _ _)
     have hw:impl_within.f r.1 0 3=some false:=by rw[within_eq,decide_eq_false (fun g=>q ⟨h2,g.1,g.2⟩)]
     exact ev_now hw (aA _ _)
   refine ev_pos (by omega) (ev_if (fun h0=>go (.inl h0)) (fun h0=>?_))
   by_cases h9:bt L[i] 0=109
   ·rw[h9]
    have:((109:Int) != 109)=false:=rfl
    rw[this]
    exact go (.inr h9)
   ·have:(bt L[i] 0 != 109)=true:=bne_iff_ne.mpr h9
    rw[this,if_neg (fun g=>by
     have g:=((all_dropW hi).mp g).1.2.1
     rcases g with g|g
     ·exact h0 g
     ·exact h9 g)]
    exact jt _
theorem read_both (x:ByteArray) (hx:x.size≤1048576): ∃(l:List S51) (b:Bool),l.length≤8∧Ev (fun k=>spec_ReadWay.f k x) (l,b)∧Ev (fun k=>impl_ReadWay.f k x) (l,b):=by
 have s1:=specSplit_ev x hx
 have s2:=implSplit_eq x hx
 have hl:=splW_len x.data.toList
 have hs:=Go.Lib.size_eq x
 obtain⟨L,hL⟩: ∃L,L=(splW x.data.toList).map ba:=⟨_,rfl⟩
 have hn:L.length≤1048577:=by rw[hL,List.length_map];omega
 rw[← hL]at s1 s2
 have e1:=specWay_l0 L hn L.length 0 [] (by omega) rfl
 rw[List.drop_zero]at e1
 by_cases c:L.length≤8
 ·have e2:=implWay_l0 L c L.length 0 [] (by omega) rfl
  rw[List.drop_zero]at e2
  by_cases q: ∀w∈L,okWd w
  ·rw[if_pos ⟨q,c⟩]at e1
   rw[if_pos q]at e2
   refine⟨[] ++ L.map stW,true,by simpa using c,?_,?_⟩
   ·simp only[spec_ReadWay.f];exact Ev.bind s1 e1
   ·simp only[impl_ReadWay.f];exact ev_now s2 (ev_neg (by omega) e2)
  ·rw[if_neg (fun g=>q g.1)]at e1
   rw[if_neg q]at e2
   refine⟨[],false,by simp,?_,?_⟩
   ·simp only[spec_ReadWay.f];exact Ev.bind s1 e1
   ·simp only[impl_ReadWay.f];exact ev_now s2 (ev_neg (by omega) e2)
 ·rw[if_neg (fun g=>c g.2)]at e1
  refine⟨[],false,by simp,?_,?_⟩
  ·simp only[spec_ReadWay.f];exact Ev.bind s1 e1
  ·simp only[impl_ReadWay.f];exact ev_now s2 (ev_pos (by omega) (Ev.now _))
def dg (n:Int):ByteArray:=⟨#[UInt8.ofNat (48+n.toNat)]⟩
theorem dg_size (n:Int):(dg n).size=1:=rfl
theorem implDec (n:Int) (h:0≤n∧n≤9):impl_Decimal.f n=some (dg n):=by
 unfold impl_Decimal.f
 first
 |(rw[if_pos h.1,if_pos (by omega)];unfold Go.Lib.decDigits;rw[dif_pos (by omega)];rfl)
 |(rw[if_pos (by omega),if_pos (by omega)];unfold Go.Lib.itoa;rw[if_neg (by omega)];unfold Go.Lib.decDigits;rw[dif_pos (by omega)];rfl)
theorem specDec (n:Int) (h:0≤n∧n≤9):Ev (fun k=>spec_l01Dec.f k n) (dg n):=by
 obtain h|h|h|h|h|h|h|h|h|h:n=0∨n=1∨n=2∨n=3∨n=4∨n=5∨n=6∨n=7∨n=8∨n=9:=by omega
 all_goals subst h;exact Ev.of (spec_l01Dec.mono _) (k:=5) (by kernel_rfl)
def jn (l:List ByteArray):ByteArray:=⟨(Go.Lib.join (l.map (·.data.toList)) [32]).toArray⟩
theorem jn_nil:jn []=⟨#[]⟩:=rfl
theorem jn_one (x:ByteArray):jn [x]=x:=by
 apply ByteArray.ext;simp[jn,Go.Lib.join_one]
theorem jn_snoc (l:List ByteArray) (x:ByteArray) (h:l≠[]):jn (l ++ [x])=(jn l ++ (⟨#[32]⟩:ByteArray)) ++ x:=by
 obtain⟨a,r,rfl⟩: ∃a r,l=a :: r:=by
  cases l with
  |nil=>exact absurd rfl h
  |cons a r=>exact⟨a,r,rfl⟩
 apply ByteArray.ext
 apply Array.toList_inj.1
 simp[jn,Go.Lib.join_cons,Go.Lib.joinTail,ByteArray.data_append]
theorem join_some (l:List ByteArray) (h0:l.length≤100000000) (h:(jn l).size≤1000000000):strings_Join.f l (⟨#[32]⟩:ByteArray)=some (jn l):=by
 unfold strings_Join.f
 have e:(Go.Lib.join (l.map (·.data.toList)) (⟨#[32]⟩:ByteArray).data.toList).length=(jn l).size:=by
  simp[jn,ByteArray.size]
 rw[if_pos (by omega),if_pos (by omega)]
 rfl
def okW9 (w:List S51):Prop:=∀j (h:j<w.length),(w[j].f0=0∨w[j].f0=1)∧0≤w[j].f1∧w[j].f1≤9
def wS (x:S51):ByteArray:=(if x.f0=0 then(⟨#[102]⟩:ByteArray)else(⟨#[109]⟩:ByteArray)) ++ dg x.f1
theorem b102:(⟨#[102]⟩:ByteArray).size=1:=rfl
theorem b109:(⟨#[109]⟩:ByteArray).size=1:=rfl
theorem b32:(⟨#[32]⟩:ByteArray).size=1:=rfl
theorem wS_size (x:S51):(wS x).size=2:=by
 unfold wS;rw[ByteArray.size_append,dg_size];split <;> rfl
theorem app3 (a b c:ByteArray):(a ++ b) ++ c=a ++ (b ++ c):=by
 apply ByteArray.ext;simp[ByteArray.data_append,Array.append_assoc]
theorem fmB (b:Int) (h:b=0∨b=1):((⟨#[102,109]⟩:ByteArray).extract b.toNat (wrap64 (b+1)).toNat)=if b=0 then(⟨#[102]⟩:ByteArray)else(⟨#[109]⟩:ByteArray):=by
 rcases h with h|h <;> subst h <;> kernel_rfl
theorem take_s (w:List S51) {i:Nat} (h:i<w.length):(w.take (i+1)).map wS=(w.take i).map wS ++ [wS w[i]]:=by
 rw[List.take_succ_eq_append_getElem h,List.map_append];rfl
theorem s_ne (w:List S51) {i:Nat} (h0:i≠0) (h:i<w.length):(w.take i).map wS≠[]:=by
 intro e
 have:=congrArg List.length e
 rw[List.length_map,List.length_take]at this
 simp only[List.length_nil]at this
 omega
theorem jn_s (w:List S51): ∀ {i:Nat},i≤w.length→(jn ((w.take i).map wS)).size≤3*i
 |0,_=>by simp[jn_nil];rfl
 |i+1,h=>by
  have ih:=jn_s w (i:=i) (by omega)
  rw[take_s w (by omega)]
  by_cases h0:i=0
  ·subst h0;simp only[List.take_zero,List.map_nil,List.nil_append];rw[jn_one,wS_size];omega
  ·rw[jn_snoc _ _ (s_ne w (by omega) (by omega)),ByteArray.size_append,ByteArray.size_append,wS_size,b32]
   omega
theorem wtS_l0 (w:List S51) (ho:okW9 w) (hl:w.length≤1048576): ∀(d i:Nat),i+d=w.length→Ev (fun k=>spec_l07Text.l0 k w (jn ((w.take i).map wS)) (i:Int)) (jn (w.map wS))
 |0,i,hd=>by
  refine ev_succ ?_
  simp only[spec_l07Text.l0]
  refine ev_neg (by omega) (ev_some ?_)
  rw[List.take_of_length_le (by omega)]
 |d+1,i,hd=>by
  have hi:i<w.length:=by omega
  have ih:=wtS_l0 w ho hl d (i+1) (by omega)
  have hs:=jn_s w (i:=i) (by omega)
  obtain⟨o0,o1,o2⟩:=ho i hi
  have d1:=specDec w[i].f1 (by omega)
  have z1:=dg_size w[i].f1
  rw[take_s w hi]at ih
  refine ev_succ ?_
  simp only[spec_l07Text.l0]
  rw[rdIStop hi,w64s (by omega)]
  refine ev_pos (by omega) (ev_if (fun g=>ev_pos (by omega) (ev_pos (by omega) ?_)) (fun g=>ev_pos (by omega) ?_))
  ·rw[jn_snoc _ _ (s_ne w (by omega) hi)]at ih
   rw[show wS w[i]=(if w[i].f0=0 then(⟨#[102]⟩:ByteArray)else(⟨#[109]⟩:ByteArray)) ++ dg w[i].f1 from rfl]at ih
   generalize jn (List.map wS (List.take i w))=acc at*
   have sa:(acc ++ (⟨#[32]⟩:ByteArray)).size=acc.size+1:=by rw[ByteArray.size_append,b32]
   refine ev_if (fun q=>?_) (fun q=>?_)
   ·rw[if_pos q,← app3]at ih
    exact ev_pos (by omega) (Ev.bind d1 (ev_pos (by rw[ByteArray.size_append,b102];omega) ih))
   ·rw[if_neg q,← app3]at ih
    exact ev_pos (by omega) (Ev.bind d1 (ev_pos (by rw[ByteArray.size_append,b109];omega) ih))
  ·have h0:i=0:=by omega
   subst h0
   simp only[List.take_zero,List.map_nil,List.nil_append]at ih ⊢
   rw[jn_one]at ih
   have e0: ∀x:ByteArray,jn [] ++ x=x:=by intro x;apply ByteArray.ext;simp[jn_nil,ByteArray.data_append]
   have n0:(jn []).size=0:=rfl
   rw[show wS w[0]=(if w[0].f0=0 then(⟨#[102]⟩:ByteArray)else(⟨#[109]⟩:ByteArray)) ++ dg w[0].f1 from rfl]at ih
   refine ev_if (fun q=>?_) (fun q=>?_)
   ·rw[if_pos q]at ih
    refine ev_pos (by omega) (Ev.bind d1 (ev_pos (by rw[ByteArray.size_append,b102];omega) ?_))
    rw[e0];exact ih
   ·rw[if_neg q]at ih
    refine ev_pos (by omega) (Ev.bind d1 (ev_pos (by rw[ByteArray.size_append,b109];omega) ?_))
    rw[e0];exact ih
theorem wtI_l0 (w:List S51) (ho:okW9 w) (hl:w.length≤1048576): ∀(d i:Nat),i+d=w.length→Ev (fun k=>impl_WayText.l0 k ((w.take i).map wS) w (w.length:Int) (i:Int)) (jn (w.map wS))
 |0,i,hd=>by
  have hs:=jn_s w (i:=i) (by omega)
  refine ev_succ ?_
  simp only[impl_WayText.l0]
  refine ev_neg (by omega) (ev_now (join_some _ (by simp;omega) (by omega)) (ev_some ?_))
  rw[List.take_of_length_le (by omega)]
 |d+1,i,hd=>by
  have hi:i<w.length:=by omega
  have ih:=wtI_l0 w ho hl d (i+1) (by omega)
  obtain⟨o0,o1,o2⟩:=ho i hi
  have d1:=implDec w[i].f1 (by omega)
  have z1:=dg_size w[i].f1
  have fm:=fmB w[i].f0 o0
  have hw:wrap64 (w[i].f0+1)=w[i].f0+1:=w64 (by omega) (by omega)
  rw[take_s w hi,show wS w[i]=(if w[i].f0=0 then(⟨#[102]⟩:ByteArray)else(⟨#[109]⟩:ByteArray)) ++ dg w[i].f1 from rfl]at ih
  have hn:((w.take i).map wS).length<8796093022208:=by simp;omega
  refine ev_succ ?_
  simp only[impl_WayText.l0]
  rw[rdIStop hi,w64s (by omega),fm,hw]
  have hz:(if w[i].f0=0 then(⟨#[102]⟩:ByteArray)else(⟨#[109]⟩:ByteArray)).size=1:=by split <;> rfl
  exact ev_pos (by omega) (ev_pos (by omega) (ev_pos (by omega) (ev_pos (by omega) (ev_pos (by omega) (ev_pos (by omega) (ev_now d1 (ev_pos (by rw[hz];omega) (ev_pos hn ih))))))))
theorem splW_app (w l:List UInt8) (h: ∀c∈w,c≠32): ∃v vs,splW l=v :: vs∧splW (w ++ l)=(w ++ v) :: vs:=by
 induction w with
 |nil=>
  cases e:splW l with
  |nil=>exact absurd e (splW_ne l)
  |cons v vs=>exact⟨v,vs,rfl,e⟩
 |cons c cs ih=>
  obtain⟨v,vs,e1,e2⟩:=ih (fun x hx=>h x (List.mem_cons_of_mem _ hx))
  refine⟨v,vs,e1,?_⟩
  show splW (c :: (cs ++ l))=_
  rw[splW,if_neg (h c (List.mem_cons_self ..)),e2]
  rfl
theorem splW_one (w:List UInt8) (h: ∀c∈w,c≠32):splW w= [w]:=by
 obtain⟨v,vs,e1,e2⟩:=splW_app w [] h
 have e:splW []= [[]]:=rfl
 rw[e]at e1
 obtain⟨rfl,rfl⟩:=List.cons.inj e1
 simpa using e2
theorem splW_tail: ∀(ws:List (List UInt8)) (w:List UInt8),(∀c∈w,c≠32)→(∀x∈ws,∀c∈x,c≠32)→splW (w ++ Go.Lib.joinTail [32] ws)=w :: ws
 |[],w,h,_=>by
  have:Go.Lib.joinTail [32] []=([]:List UInt8):=rfl
  rw[this,List.append_nil];exact splW_one w h
 |x :: ws,w,h,hs=>by
  have ih:=splW_tail ws x (hs x (List.mem_cons_self ..)) (fun y hy=>hs y (List.mem_cons_of_mem _ hy))
  have e:Go.Lib.joinTail [32] (x :: ws)=32 :: (x ++ Go.Lib.joinTail [32] ws):=rfl
  rw[e]
  obtain⟨v,vs,e1,e2⟩:=splW_app w (32 :: (x ++ Go.Lib.joinTail [32] ws)) h
  rw[e2]
  rw[splW,if_pos rfl,ih]at e1
  obtain⟨rfl,rfl⟩:=List.cons.inj e1
  rw[List.append_nil]
theorem splW_jn (ws:List ByteArray) (h0:ws≠[]) (h: ∀w∈ws,∀c∈w.data.toList,c≠32):(splW (jn ws).data.toList).map ba=ws:=by
 cases ws with
 |nil=>exact absurd rfl h0
 |cons a r=>
  have e:(jn (a :: r)).data.toList=a.data.toList ++ Go.Lib.joinTail [32] (r.map (·.data.toList)):=by simp[jn,Go.Lib.join_cons]
  rw[e,splW_tail _ _ (h a (List.mem_cons_self ..)) (fun x hx=>by
   obtain⟨w,hw,rfl⟩:=List.mem_map.mp hx
   exact h w (List.mem_cons_of_mem _ hw))]
  rw[List.map_cons,List.map_map,ba_self]
  congr 1
  rw[List.map_congr_left (g:=id) (fun y _=>by simp[ba_self])]
  simp
theorem next_ev (c:List Int) (at_ sd:Int) (m:Nat) (h:Sr c at_ (m+1)):
  ∃r a' s',spec_l00Src_next.f c at_ sd=some (r,a',s')∧0≤r∧r≤255∧Sr c a' m:=by
 obtain⟨h1,h2,h3⟩:=h
 have e:wrap64 (at_+1)=at_+1:=w64 (by omega) (by omega)
 have hs:Sr c (at_+1) m:=⟨h1,by omega,by omega⟩
 unfold spec_l00Src_next.f
 rw[e]
 by_cases hl:at_<(c.length:Int)
 ·rw[if_pos hl,if_pos h2,if_pos (by omega)]
  have:=h1 _ (rd_mem h2 hl)
  rw[w64 (by omega) (by omega)]
  exact⟨_,_,_,rfl,this.1,this.2,hs⟩
 ·rw[if_neg hl,if_neg (by omega)]
  have:=and255 (IntKind.u64.wrap (IntKind.u64.wrap (sd*6364136223846793005))+1442695040888963407)
  refine⟨_,_,_,rfl,?_,?_,hs⟩
  ·rw[w64 (by omega) (by omega)];exact this.1
  ·rw[w64 (by omega) (by omega)];exact this.2
theorem pick_ev (c:List Int) (at_ sd n:Int) (m:Nat) (h:Sr c at_ (m+2)):
  ∃r a' s',spec_l00Src_pick.f c at_ sd n=some (r,a',s')∧0≤r∧(n≤1∧r=0∨1<n∧r<n)∧Sr c a' m:=by
 unfold spec_l00Src_pick.f
 by_cases h1:n≤1
 ·rw[if_pos h1];exact⟨_,_,_,rfl,by omega,.inl ⟨h1,rfl⟩,h.less (by omega)⟩
 ·rw[if_neg h1]
  obtain⟨r,a',s',e,r0,r1,hs⟩:=next_ev c at_ sd (m+1) h
  rw[e];simp only[Option.bind_some]
  by_cases h2:n > 200
  ·rw[if_pos h2]
   obtain⟨q,b',t',e',q0,q1,hs'⟩:=next_ev c a' s' m hs
   rw[e'];simp only[Option.bind_some]
   rw[if_neg (by omega),w64 (x:=r*256) (by omega) (by omega),w64 (x:=r*256+q) (by omega) (by omega)]
   exact⟨_,_,_,rfl,Int.tmod_nonneg _ (by omega),.inr ⟨by omega,Int.tmod_lt_of_pos _ (by omega)⟩,hs'⟩
  ·rw[if_neg h2,if_neg (by omega)]
   exact⟨_,_,_,rfl,Int.tmod_nonneg _ (by omega),.inr ⟨by omega,Int.tmod_lt_of_pos _ (by omega)⟩,hs.less (by omega)⟩
theorem among_ev (c:List Int) (at_ sd:Int) (m:Nat) (h:Sr c at_ (m+2)) (l:List Int) (hl:1≤l.length):
  ∃r a' s',spec_l00Src_among.f c at_ sd l=some (r,a',s')∧r∈l∧Sr c a' m:=by
 obtain⟨r,a',s',e,r0,r1,hs⟩:=pick_ev c at_ sd (l.length:Int) m h
 have hr:r<(l.length:Int):=by omega
 unfold spec_l00Src_among.f
 rw[e,Option.bind_some,if_pos r0,if_pos hr]
 exact⟨_,_,_,rfl,rd_mem r0 hr,hs⟩
theorem new_ev (c:List Int) (at_ sd:Int) (m:Nat) (h:Sr c at_ (m+4)):
  ∃x y z a' s',spec_l05New.f c at_ sd=some (x,y,z,a',s')∧Sr c a' m:=by
 obtain⟨r,a',s',e,r0,r1,hs⟩:=pick_ev c at_ sd 8 (m+2) h
 obtain⟨q,b',t',e',q0,q1,hs'⟩:=pick_ev c a' s' 2 m hs
 unfold spec_l05New.f spec_l00Src_one.f
 rw[e,Option.bind_some,e',Option.bind_some,Option.bind_some]
 by_cases hq:(q == 0)=true
 ·rw[if_pos hq];exact⟨_,_,_,_,_,rfl,hs'⟩
 ·rw[if_neg hq];exact⟨_,_,_,_,_,rfl,hs'⟩
theorem drawT_l0 (c:List Int) (m:Nat): ∀(d:Nat) (out:List S25) (at_ sd:Int),out.length+d≤100→Sr c at_ (m+4*d)→
  ∃(t:List S25) (a' s':Int),Ev (fun k=>spec_l05Draw.l0 k out (d:Int) c at_ sd) (t,a',s')∧t.length=out.length+d∧Sr c a' m
 |0,out,at_,sd,_,hs=>by
  refine⟨out,at_,sd,ev_succ ?_,by omega,hs⟩
  simp only[spec_l05Draw.l0]
  exact ev_neg (by omega) (Ev.now _)
 |d+1,out,at_,sd,h1,hs=>by
  obtain⟨x,y,z,a',s',e,hs'⟩:=new_ev c at_ sd (m+4*d) (hs.less (by omega))
  obtain⟨t,a2,s2,e2,e3,e4⟩:=drawT_l0 c m d (out ++ [⟨x,y,z⟩]) a' s' (by simp;omega) hs'
  refine⟨t,a2,s2,ev_succ ?_,by simp at e3;omega,e4⟩
  simp only[spec_l05Draw.l0]
  rw[w64 (x:=((d+1:Nat):Int) - 1) (by omega) (by omega),show((d+1:Nat):Int) - 1=(d:Int) by omega]
  exact ev_pos (by omega) (ev_now e (ev_pos (by omega) e2))
theorem drawT_ev (c:List Int) (m:Nat) (at_ sd:Int) (h:Sr c at_ (m+14)):
  ∃(t:List S25) (a' s':Int),Ev (fun k=>spec_l05Draw.f k c at_ sd) (t,a',s')∧(1≤t.length∧t.length≤3)∧Sr c a' m:=by
 obtain⟨r,a',s',e,r0,r1,hs⟩:=pick_ev c at_ sd 3 (m+12) h
 obtain⟨d,hd⟩: ∃d:Nat,1+r=(d:Int):=⟨(1+r).toNat,by omega⟩
 obtain⟨t,a2,s2,e2,e3,e4⟩:=drawT_l0 c m d [] a' s' (by simp;omega) (hs.less (by omega))
 refine⟨t,a2,s2,?_,by simp at e3;omega,e4⟩
 simp only[spec_l05Draw.f]
 refine ev_now e ?_
 rw[w64 (x:=1+r) (by omega) (by omega),hd]
 exact e2
theorem bentT_l0 (c:List Int) (m:Nat): ∀(d:Nat) (out:List S25) (at_ sd:Int),out.length+d≤100→Sr c at_ (m+4*d)→
  ∃(t:List S25) (a' s':Int),Ev (fun k=>spec_l05Bent.l0 k out (d:Int) c at_ sd) (t,a',s')∧t.length=out.length+d∧Sr c a' m
 |0,out,at_,sd,_,hs=>by
  refine⟨out,at_,sd,ev_succ ?_,by omega,hs⟩
  simp only[spec_l05Bent.l0]
  exact ev_neg (by omega) (Ev.now _)
 |d+1,out,at_,sd,h1,hs=>by
  obtain⟨x,y,z,a',s',e,hs'⟩:=new_ev c at_ sd (m+4*d) (hs.less (by omega))
  obtain⟨t,a2,s2,e2,e3,e4⟩:=bentT_l0 c m d (out ++ [⟨x,y,z⟩]) a' s' (by simp;omega) hs'
  refine⟨t,a2,s2,ev_succ ?_,by simp at e3;omega,e4⟩
  simp only[spec_l05Bent.l0]
  rw[w64 (x:=((d+1:Nat):Int) - 1) (by omega) (by omega),show((d+1:Nat):Int) - 1=(d:Int) by omega]
  exact ev_pos (by omega) (ev_now e (ev_pos (by omega) e2))
theorem bentT_ev (c:List Int) (m:Nat) (at_ sd:Int) (h:Sr c at_ (m+60)):
  ∃(t:List S25) (a' s':Int),Ev (fun k=>spec_l05Bent.f k c at_ sd) (t,a',s')∧t.length≤7∧Sr c a' m:=by
 obtain⟨t,a1,s1,e1,l1,h1⟩:=drawT_ev c (m+46) at_ sd h
 obtain⟨i,a2,s2,e2,i0,i1,h2⟩:=pick_ev c a1 s1 (t.length:Int) (m+44) h1
 obtain⟨q,a3,s3,e3,q0,q1,h3⟩:=pick_ev c a2 s2 16 (m+42) h2
 have hi:i<(t.length:Int):=by omega
 simp only[spec_l05Bent.f]
 by_cases c0:q=0
 ·obtain⟨z,a4,s4,e4,_,h4⟩:=among_ev c a3 s3 (m+40) h3 [(-1),0,4,5,(-9223372036854775808)] (by simp)
  exact⟨_,_,_,Ev.bind e1 (ev_now e2 (ev_pos i0 (ev_pos hi (ev_now e3 (ev_pos c0 (ev_now e4 (Ev.now _))))))),by simp;omega,h4.less (by omega)⟩
 by_cases c1:q=1
 ·obtain⟨z,a4,s4,e4,_,h4⟩:=among_ev c a3 s3 (m+40) h3 [(-1),0,4,5] (by simp)
  exact⟨_,_,_,Ev.bind e1 (ev_now e2 (ev_pos i0 (ev_pos hi (ev_now e3 (ev_neg c0 (ev_pos c1 (ev_now e4 (Ev.now _)))))))),by simp;omega,h4.less (by omega)⟩
 by_cases c2:q=2
 ·exact⟨_,_,_,Ev.bind e1 (ev_now e2 (ev_pos i0 (ev_pos hi (ev_now e3 (ev_neg c0 (ev_neg c1 (ev_pos c2 (Ev.now _)))))))),by simp;omega,h3.less (by omega)⟩
 by_cases c3:q=3
 ·obtain⟨z,a4,s4,e4,hz,h4⟩:=among_ev c a3 s3 (m+40) h3 [0,6,7] (by simp)
  obtain⟨d,hd,aA⟩: ∃d:Nat,z=(d:Int)∧d≤7:=by
   simp at hz
   rcases hz with rfl|rfl|rfl
   ·exact⟨0,rfl,by omega⟩
   ·exact⟨6,rfl,by omega⟩
   ·exact⟨7,rfl,by omega⟩
  obtain⟨u,a5,s5,e5,l5,h5⟩:=bentT_l0 c m d [] a4 s4 (by simp;omega) (h4.less (by omega))
  rw[← hd]at e5
  exact⟨_,_,_,Ev.bind e1 (ev_now e2 (ev_pos i0 (ev_pos hi (ev_now e3 (ev_neg c0 (ev_neg c1 (ev_neg c2 (ev_pos c3 (ev_now e4 e5))))))))),by simp at l5;omega,h5⟩
 exact⟨_,_,_,Ev.bind e1 (ev_now e2 (ev_pos i0 (ev_pos hi (ev_now e3 (ev_neg c0 (ev_neg c1 (ev_neg c2 (ev_neg c3 (Ev.now _))))))))),by show t.length≤7;omega,h3.less (by omega)⟩
theorem one_ev (c:List Int) (at_ sd n:Int) (m:Nat) (h:Sr c at_ (m+2)): ∃(b:Bool) (a' s':Int),spec_l00Src_one.f c at_ sd n=some (b,a',s')∧Sr c a' m:=by
 obtain⟨q,b',t',e',q0,q1,hs'⟩:=pick_ev c at_ sd n m h
 unfold spec_l00Src_one.f
 rw[e',Option.bind_some]
 exact⟨_,_,_,rfl,hs'⟩
theorem srcText_ev (c:List Int) (at_ sd:Int) (m:Nat) (h:Sr c at_ (m+2)) (l:List ByteArray) (hl:1≤l.length):
  ∃r a' s',spec_l00Src_text.f c at_ sd l=some (r,a',s')∧r∈l∧Sr c a' m:=by
 obtain⟨r,a',s',e,r0,r1,hs⟩:=pick_ev c at_ sd (l.length:Int) m h
 have hr:r<(l.length:Int):=by omega
 unfold spec_l00Src_text.f
 rw[e,Option.bind_some,if_pos r0,if_pos hr]
 obtain⟨n,rfl⟩:=Int.eq_ofNat_of_zero_le r0
 have hn:n<l.length:=by omega
 refine⟨_,_,_,rfl,?_,hs⟩
 unfold rdOf;simp[List.getD_eq_getElem?_getD,hn]
theorem bt_tl (a:ByteArray):a.toList=a.data.toList:=by simpa using ByteArray.toList_eq a
theorem spoil_ev (c:List Int) (at_ sd:Int) (m:Nat) (h:Sr c at_ (m+6)) (a:ByteArray) (ha:a.size≤1000):
  ∃r a' s',spec_l01Spoil.f c at_ sd a=some (r,a',s')∧r.size≤3000:=by
 obtain⟨q,a1,s1,e1,q0,q1,h1⟩:=pick_ev c at_ sd 5 (m+4) h
 unfold spec_l01Spoil.f
 rw[e1,Option.bind_some]
 by_cases c0:q=0
 ·rw[if_pos c0,w64 (x:=(a.size:Int)+1) (by omega) (by omega)]
  obtain⟨i,a2,s2,e2,i0,i1,h2⟩:=pick_ev c a1 s1 ((a.size:Int)+1) (m+2) h1
  rw[e2,Option.bind_some,if_pos i0,if_pos (by show i≤(a.size:Int);omega)]
  obtain⟨x,a3,s3,e3,hx,h3⟩:=srcText_ev c a2 s2 m h2 [(⟨#[32]⟩:ByteArray),(⟨#[48]⟩:ByteArray),(⟨#[45]⟩:ByteArray),(⟨#[120]⟩:ByteArray),(⟨#[49]⟩:ByteArray),(⟨#[57]⟩:ByteArray),(⟨#[46]⟩:ByteArray)] (by simp)
  have aA:x.size=1:=by
   simp only[List.mem_cons,List.not_mem_nil,or_false]at hx
   rcases hx with rfl|rfl|rfl|rfl|rfl|rfl|rfl <;> rfl
  rw[e3,Option.bind_some]
  have z1:(a.extract 0 i.toNat).size≤1000:=by rw[ByteArray.size_extract];omega
  have z2:(a.extract i.toNat a.size).size≤1000:=by rw[ByteArray.size_extract];omega
  rw[if_pos (by show(a.extract 0 i.toNat).size+x.size≤_;omega),if_pos (by show((a.extract 0 i.toNat) ++ x).size+(a.extract i.toNat a.size).size≤_;rw[ByteArray.size_append];omega)]
  exact⟨_,_,_,rfl,by dsimp only;rw[ByteArray.size_append,ByteArray.size_append];omega⟩
 ·rw[if_neg c0]
  by_cases c1:q=1
  ·rw[if_pos c1]
   by_cases c2:a.toList=([]:List UInt8)
   ·rw[if_pos c2];exact⟨_,_,_,rfl,by omega⟩
   ·rw[if_neg c2]
    obtain⟨i,a2,s2,e2,i0,i1,h2⟩:=pick_ev c a1 s1 (a.size:Int) (m+2) h1
    have hz:1≤a.size:=by
     apply Nat.one_le_iff_ne_zero.2
     intro z
     apply c2
     have:=Go.Lib.size_eq a
     rw[z]at this
     rw[bt_tl]
     exact List.length_eq_zero_iff.1 this.symm
    rw[e2,Option.bind_some,if_pos i0,if_pos (by show i≤(a.size:Int);omega),w64 (x:=i+1) (by omega) (by omega),if_pos (by show(0:Int)≤i+1;omega),if_pos (by show i+1≤(a.size:Int);omega)]
    have z1:(a.extract 0 i.toNat).size≤1000:=by rw[ByteArray.size_extract];omega
    have z2:(a.extract (i+1).toNat a.size).size≤1000:=by rw[ByteArray.size_extract];omega
    rw[if_pos (by show(a.extract 0 i.toNat).size+(a.extract (i+1).toNat a.size).size≤_;omega)]
    exact⟨_,_,_,rfl,by dsimp only;rw[ByteArray.size_append];omega⟩
  ·rw[if_neg c1];exact⟨_,_,_,rfl,by omega⟩
theorem wS_list (x:S51) (h:0≤x.f1∧x.f1≤3):(wS x).data.toList= [if x.f0=0 then 102 else 109,UInt8.ofNat (48+x.f1.toNat)]:=by
 unfold wS dg
 split <;> simp
theorem wS_ok (x:S51) (h0:x.f0=0∨x.f0=1) (h:0≤x.f1∧x.f1≤3):okWd (wS x)∧stW (wS x)=x:=by
 have l:=wS_list x h
 have hl:(wS x).data.toList.length=2:=by rw[l];rfl
 have b0:bt (wS x) 0=if x.f0=0 then 102 else 109:=by
  have:=bt_list (x:=wS x) (i:=0) (by omega)
  simp only[l]at this
  rw[show((0:Nat):Int)=0 from rfl]at this
  rw[this]
  simp only[List.getElem_cons_zero]
  split <;> rfl
 have b1:bt (wS x) 1=48+x.f1:=by
  have:=bt_list (x:=wS x) (i:=1) (by omega)
  simp only[l]at this
  rw[show((1:Nat):Int)=1 from rfl]at this
  rw[this]
  simp only[List.getElem_cons_succ,List.getElem_cons_zero]
  rw[UInt8.toNat_ofNat']
  omega
 refine⟨⟨wS_size x,?_,by rw[b1];omega,by rw[b1];omega⟩,?_⟩
 ·rw[b0];split
  ·exact .inl rfl
  ·exact .inr rfl
 ·unfold stW
  rw[b0,b1,show 48+x.f1 - 48=x.f1 by omega]
  obtain⟨a,b⟩:=x
  rcases h0 with z|z
  ·dsimp only at z
   subst z;rfl
  ·dsimp only at z
   subst z;rfl
theorem wS_blank (x:S51) (h:0≤x.f1∧x.f1≤3): ∀c∈(wS x).data.toList,c≠32:=by
 intro c hc
 rw[wS_list x h]at hc
 simp only[List.mem_cons,List.not_mem_nil,or_false]at hc
 rcases hc with rfl|rfl
 ·split <;> decide
 ·intro e
  have:=congrArg UInt8.toNat e
  rw[UInt8.toNat_ofNat']at this
  have aA:(32:UInt8).toNat=32:=rfl
  omega
theorem fault_all (p:Pu) (w:List S51) (hn:w.length≤1048576): ∃(nm:ByteArray) (at_ e:Int),Ev (fun k=>impl_WayFault.f k p.f0 p.f1 p.f2 w) (nm,at_,e)∧Ev (fun k=>spec_WayFault.f k p.f0 p.f1 p.f2 w) (nm,at_,e)∧
  Ev (fun k=>impl_IsWay.f k p.f0 p.f1 p.f2 w) ((nm.toList == ([110,111,110,101]:List UInt8)),e)∧Ev (fun k=>spec_IsWay.f k p.f0 p.f1 p.f2 w) ((nm.toList == ([110,111,110,101]:List UInt8)),e)∧(okP p→e=0)∧(okW p w→okP p→(nm.toList == ([110,111,110,101]:List UInt8))=true):=by
 have e1:=l05One_ev p
 have e2:=validPurchase_ev p
 by_cases hp:okP p
 ·rw[ofd1 hp]at e1 e2
  obtain⟨r,e3,e4,e5⟩:=fault5_ev w hn p hp
  refine⟨r.1,r.2,0,?_,?_,?_,?_,fun _=>rfl,fun h _=>by rw[beq_iff_eq];exact e5.mpr h⟩
  ·simp only[impl_WayFault.f];exact Ev.bind e2 (ev_pos (by trivial) (Ev.bind e4 (Ev.now _)))
  ·simp only[spec_WayFault.f];exact Ev.bind e1 (ev_pos (by trivial) (Ev.bind e3 (Ev.now _)))
  ·simp only[impl_IsWay.f];exact Ev.bind e2 (ev_pos (by trivial) (Ev.bind e4 (Ev.now _)))
  ·simp only[spec_IsWay.f];exact Ev.bind e1 (ev_pos (by trivial) (Ev.bind e3 (Ev.now _)))
 ·rw[ofd hp]at e1 e2
  have ee:((⟨#[]⟩:ByteArray).toList == ([110,111,110,101]:List UInt8))=false:=by rw[bt_tl];rfl
  refine⟨⟨#[]⟩,0,1,?_,?_,?_,?_,fun h=>absurd h hp,fun _ h=>absurd h hp⟩
  ·simp only[impl_WayFault.f];exact Ev.bind e2 (ev_neg (by simp) (Ev.now _))
  ·simp only[spec_WayFault.f];exact Ev.bind e1 (ev_neg (by simp) (Ev.now _))
  ·rw[ee];simp only[impl_IsWay.f];exact Ev.bind e2 (ev_neg (by simp) (Ev.now _))
  ·rw[ee];simp only[spec_IsWay.f];exact Ev.bind e1 (ev_neg (by simp) (Ev.now _))
theorem okW_bd {p:Pu} (hp:okP p) {w:List S51} (hw:okW p w) {j:Nat} (h:j<w.length):(w[j].f0=0∨w[j].f0=1)∧0≤w[j].f1∧w[j].f1≤3:=by
 obtain⟨q1,q2,_⟩:=hw.1 j h
 have:=many_bd hp (blockB p (j:Int))
 exact⟨by rw[q1];exact blockB_01 p _,by omega,by omega⟩
theorem way_all (p:Pu) (w:List S51) (hn:w.length≤9): ∃(c:Int) (x:List S51) (L:List (List Int)) (t:ByteArray) (bk:List S51) (ok:Bool),
  Ev (fun k=>impl_MirrorWay.f k p.f0 p.f1 p.f2 w) (x,c)∧Ev (fun k=>spec_MirrorWay.f k p.f0 p.f1 p.f2 w) (x,c)∧Ev (fun k=>impl_PartsOfWay.f k p.f0 p.f1 p.f2 w) (L,c)∧Ev (fun k=>spec_PartsOfWay.f k p.f0 p.f1 p.f2 w) (L,c)∧
  Ev (fun k=>impl_WayText.f k p.f0 p.f1 p.f2 w) t∧Ev (fun k=>spec_WayText.f k p.f0 p.f1 p.f2 w) t∧Ev (fun k=>impl_ReadWay.f k t) (bk,ok)∧x.length≤9∧(∀y∈L,y.length=2)∧L.length≤9∧(t.toList≠[]→ok=true∧bk=w)∧
  (c=0→okP p∧okW p w∧x=w.map (mirror p)∧L=prL w (w.length - 1))∧(okP p→okW p w→c=0):=by
 obtain⟨c,e1,e2,e3⟩:=code_ok p w (by omega)
 by_cases hc:c=0
 ·subst hc
  obtain⟨hp,hw⟩:=e3.mp rfl
  have hlen:=okW_len hp hw
  have hb: ∀j (h:j<w.length),w[j].f0=0∨w[j].f0=1:=fun j h=>(okW_bd hp hw h).1
  have ms:=sMirror_l0 w (by omega) p w.length 0 (by omega)
  have mi:=iMirror_l0 w (by omega) p hb w.length 0 (by omega)
  obtain⟨ps,pi⟩:=parts_both w (by omega) p (fun j hj=>(hw.1 j hj).1)
  have h9:okW9 w:=fun j h=>⟨(okW_bd hp hw h).1,by have:=(okW_bd hp hw h).2;omega⟩
  have ts:=wtS_l0 w h9 (by omega) w.length 0 (by omega)
  have ti:=wtI_l0 w h9 (by omega) w.length 0 (by omega)
  have hl:=prL_len w (w.length - 1)
  have hjs:=jn_s w (i:=w.length) (Nat.le_refl _)
  rw[List.take_length]at hjs
  have hpos:1≤w.length:=by have:=hp.2.2.1;omega
  have hne:w.map wS≠[]:=by
   intro e
   have g1:=congrArg List.length e
   rw[List.length_map]at g1
   simp only[List.length_nil]at g1
   omega
  have hbd: ∀x∈w,(x.f0=0∨x.f0=1)∧0≤x.f1∧x.f1≤3:=by
   intro x hx
   obtain⟨j,hj,rfl⟩:=List.mem_iff_getElem.mp hx
   exact okW_bd hp hw hj
  have s2:=implSplit_eq (jn (w.map wS)) (by omega)
  have hsw:=splW_jn (w.map wS) hne (fun v hv=>by
   obtain⟨x,hx,rfl⟩:=List.mem_map.mp hv
   exact wS_blank x (hbd x hx).2)
  rw[hsw]at s2
  have i2:=implWay_l0 (w.map wS) (by rw[List.length_map];have:=hp.1;have:=hp.2.1;omega) (w.map wS).length 0 [] (by omega) rfl
  rw[List.drop_zero,if_pos (fun v hv=>by
   obtain⟨x,hx,rfl⟩:=List.mem_map.mp hv
   exact(wS_ok x (hbd x hx).1 (hbd x hx).2).1),List.nil_append]at i2
  have hm:(w.map wS).map stW=w:=by
   rw[List.map_map]
   conv=>rhs;rw[← List.map_id w]
   exact List.map_congr_left (fun x hx=>(wS_ok x (hbd x hx).1 (hbd x hx).2).2)
  rw[hm]at i2
  refine⟨0,w.map (mirror p),prL w (w.length - 1),jn (w.map wS),w,true,?_,?_,?_,?_,?_,?_,?_,by rw[List.length_map];exact hn,prL_two w _,by omega,fun _=>⟨rfl,rfl⟩,fun _=>⟨hp,hw,rfl,rfl⟩,fun _ _=>rfl⟩
  ·simp only[impl_MirrorWay.f];exact Ev.bind e2 (ev_pos rfl (by simpa using mi))
  ·simp only[spec_MirrorWay.f];exact Ev.bind e1 (ev_pos rfl (by simpa using ms))
  ·simp only[impl_PartsOfWay.f];exact Ev.bind e2 (ev_pos rfl (Ev.bind pi (Ev.now _)))
  ·simp only[spec_PartsOfWay.f];exact Ev.bind e1 (ev_pos rfl (Ev.bind ps (Ev.now _)))
  ·simp only[impl_WayText.f];exact Ev.bind e2 (ev_pos rfl ti)
  ·simp only[spec_WayText.f,spec_l07Text.f];exact Ev.bind e1 (ev_pos rfl (Ev.bind ts (Ev.now _)))
  ·simp only[impl_ReadWay.f]
   refine ev_now s2 (ev_neg ?_ i2)
   rw[List.length_map]
   have:=hp.1
   have:=hp.2.1
   omega
 ·obtain⟨bk,ok,_,_,r⟩:=read_both ⟨#[]⟩ (by decide)
  refine⟨c,[],[],⟨#[]⟩,bk,ok,?_,?_,?_,?_,?_,?_,r,by simp,by simp,by simp,fun h=>absurd (by rw[bt_tl]) h,fun h=>absurd h hc,fun h1 h2=>absurd (e3.mpr ⟨h1,h2⟩) hc⟩
  ·simp only[impl_MirrorWay.f];exact Ev.bind e2 (ev_neg hc (Ev.now _))
  ·simp only[spec_MirrorWay.f];exact Ev.bind e1 (ev_neg hc (Ev.now _))
  ·simp only[impl_PartsOfWay.f];exact Ev.bind e2 (ev_neg hc (Ev.now _))
  ·simp only[spec_PartsOfWay.f];exact Ev.bind e1 (ev_neg hc (Ev.now _))
  ·simp only[impl_WayText.f];exact Ev.bind e2 (ev_neg hc (Ev.now _))
  ·simp only[spec_WayText.f];exact Ev.bind e1 (ev_neg hc (Ev.now _))
def okF (x:Int):Prop:=x= -1∨(0≤x∧x≤9)∨x= -9223372036854775808
theorem decF {x:Int} (h:okF x): ∃r:ByteArray,Ev (fun k=>spec_l01Dec.f k x) r∧r.size≤20:=by
 rcases h with rfl|h|rfl
 ·exact⟨⟨#[45,49]⟩,Ev.of (spec_l01Dec.mono _) (k:=5) (by kernel_rfl),by decide⟩
 ·exact⟨dg x,specDec x h,by rw[dg_size];omega⟩
 ·exact⟨⟨#[45,57,50,50,51,51,55,50,48,51,54,56,53,52,55,55,53,56,48,56]⟩,Ev.of (spec_l01Dec.mono _) (k:=25) (by kernel_rfl),by decide⟩
def okFs (w:List S51):Prop:=∀x∈w,okF x.f1
theorem textF_l0 (w:List S51) (ho:okFs w) (hl:w.length≤9): ∀(d i:Nat) (acc:ByteArray),i+d=w.length→acc.size≤30*i→ ∃r:ByteArray,Ev (fun k=>spec_l07Text.l0 k w acc (i:Int)) r∧r.size≤30*w.length
 |0,i,acc,hd,ha=>by
  refine⟨acc,ev_succ ?_,by omega⟩
  simp only[spec_l07Text.l0]
  exact ev_neg (by omega) (Ev.now _)
 |d+1,i,acc,hd,ha=>by
  have hi:i<w.length:=by omega
  obtain⟨t,ht,hs⟩:=decF (ho w[i] (List.getElem_mem hi))
  have go: ∀(a b:ByteArray),a.size≤30*i+1→b.size=1→ ∃r:ByteArray,Ev (fun k=>spec_l07Text.l0 k w ((a ++ b) ++ t) ((i+1:Nat):Int)) r∧r.size≤30*w.length:=fun a b h1 h2=>textF_l0 w ho hl d (i+1) ((a ++ b) ++ t) (by omega) (by rw[ByteArray.size_append,ByteArray.size_append];omega)
  have sa:(acc ++ (⟨#[32]⟩:ByteArray)).size=acc.size+1:=by rw[ByteArray.size_append,b32]
  by_cases g:(i:Int) > 0
  ·by_cases q:w[i].f0=0
   ·obtain⟨r,e,hr⟩:=go (acc ++ (⟨#[32]⟩:ByteArray)) ⟨#[102]⟩ (by omega) rfl
    refine⟨r,ev_succ ?_,hr⟩
    simp only[spec_l07Text.l0]
    rw[rdIStop hi,w64s (by omega)]
    exact ev_pos (by omega) (ev_pos g (ev_pos (by omega) (ev_pos (by omega) (ev_pos q (ev_pos (by omega) (Ev.bind ht (ev_pos (by rw[ByteArray.size_append,b102];omega) e)))))))
   ·obtain⟨r,e,hr⟩:=go (acc ++ (⟨#[32]⟩:ByteArray)) ⟨#[109]⟩ (by omega) rfl
    refine⟨r,ev_succ ?_,hr⟩
    simp only[spec_l07Text.l0]
    rw[rdIStop hi,w64s (by omega)]
    exact ev_pos (by omega) (ev_pos g (ev_pos (by omega) (ev_pos (by omega) (ev_neg q (ev_pos (by omega) (Ev.bind ht (ev_pos (by rw[ByteArray.size_append,b109];omega) e)))))))
  ·by_cases q:w[i].f0=0
   ·obtain⟨r,e,hr⟩:=go acc ⟨#[102]⟩ (by omega) rfl
    refine⟨r,ev_succ ?_,hr⟩
    simp only[spec_l07Text.l0]
    rw[rdIStop hi,w64s (by omega)]
    exact ev_pos (by omega) (ev_neg g (ev_pos (by omega) (ev_pos q (ev_pos (by omega) (Ev.bind ht (ev_pos (by rw[ByteArray.size_append,b102];omega) e))))))
   ·obtain⟨r,e,hr⟩:=go acc ⟨#[109]⟩ (by omega) rfl
    refine⟨r,ev_succ ?_,hr⟩
    simp only[spec_l07Text.l0]
    rw[rdIStop hi,w64s (by omega)]
    exact ev_pos (by omega) (ev_neg g (ev_pos (by omega) (ev_neg q (ev_pos (by omega) (Ev.bind ht (ev_pos (by rw[ByteArray.size_append,b109];omega) e))))))
theorem okF_plain (p:Pu) {n:Nat} (h:n≤8):okFs (plL p n):=by
 intro x hx
 obtain⟨i,hi,rfl⟩:=List.mem_iff_getElem.mp hx
 rw[plL_get]
 rw[plL_len]at hi
 right;left
 unfold plS;dsimp only;omega
theorem okFs_set {w:List S51} (h:okFs w) (n:Nat) (y:S51) (hy:okF y.f1):okFs (w.set n y):=by
 intro x hx
 rcases List.mem_or_eq_of_mem_set hx with g|g
 ·exact h x g
 ·rw[g];exact hy
theorem okF_rd {w:List S51} (h:okFs w) (i:Int):okF (rd_T51 w i).f1:=by
 unfold rd_T51
 rw[List.getD_eq_getElem?_getD]
 by_cases g:i.toNat<w.length
 ·rw[List.getElem?_eq_getElem g];exact h _ (List.getElem_mem g)
 ·rw[List.getElem?_eq_none (by omega)]
  right;left
  exact⟨by decide,by decide⟩
theorem drawF_l0 (c:List Int) (m:Nat): ∀(d:Nat) (way:List S51) (at_ sd:Int),d≤10→(1≤way.length∧way.length≤8)→okFs way→Sr c at_ (m+4+4*d)→
  ∃(t:List S51) (a' s':Int),Ev (fun k=>spec_l07Draw.l0 k way (d:Int) c at_ sd) (t,a',s')∧t.length≤9∧okFs t∧Sr c a' m
 |0,way,at_,sd,_,hl,ho,hs=>by
  obtain⟨q,a1,s1,e1,q0,q1,h1⟩:=pick_ev c at_ sd 16 (m+2) (hs.less (by omega))
  have hlast:wrap64 ((way.length:Int) - 1)=(way.length:Int) - 1:=w64 (by omega) (by omega)
  by_cases c0:q=0
  ·obtain⟨z,a2,s2,e2,z0,z1,h2⟩:=pick_ev c a1 s1 (way.length:Int) m h1
   refine⟨way.take z.toNat,a2,s2,ev_succ ?_,?_,fun x hx=>ho x (List.mem_of_mem_take hx),h2⟩
   ·simp only[spec_l07Draw.l0]
    exact ev_neg (by omega) (ev_now e1 (ev_pos c0 (ev_now e2 (ev_pos z0 (ev_pos (by omega) (Ev.now _))))))
   ·rw[List.length_take];omega
  by_cases c1:q=1
  ·refine⟨way ++ [⟨wrap64 (1 - (rd_T51 way (wrap64 ((way.length:Int) - 1))).f0),0⟩],a1,s1,ev_succ ?_,?_,?_,h1.less (by omega)⟩
   ·simp only[spec_l07Draw.l0]
    exact ev_neg (by omega) (ev_now e1 (ev_neg c0 (ev_pos c1 (ev_pos (by omega) (ev_pos (by omega) (ev_pos (by omega) (Ev.now _)))))))
   ·simp;omega
   ·intro x hx
    rcases List.mem_append.1 hx with g|g
    ·exact ho x g
    ·rw[List.mem_singleton.1 g];unfold okF;dsimp only;omega
  by_cases c2:q=2
  ·obtain⟨z,a2,s2,e2,_,h2⟩:=among_ev c a1 s1 m h1 [(-1),0,1,2] (by simp)
   refine⟨way.set (0:Int).toNat ⟨z,(rd_T51 way 0).f1⟩,a2,s2,ev_succ ?_,?_,okFs_set ho _ _ (okF_rd ho 0),h2⟩
   ·simp only[spec_l07Draw.l0]
    exact ev_neg (by omega) (ev_now e1 (ev_neg c0 (ev_neg c1 (ev_pos c2 (ev_now e2 (ev_pos (by omega) (Ev.now _)))))))
   ·simp;omega
  by_cases c3:q=3
  ·obtain⟨z,a2,s2,e2,hz,h2⟩:=among_ev c a1 s1 m h1 [(-1),0,3,4,(-9223372036854775808)] (by simp)
   refine⟨way.set (0:Int).toNat ⟨(rd_T51 way 0).f0,z⟩,a2,s2,ev_succ ?_,?_,okFs_set ho _ _ ?_,h2⟩
   ·simp only[spec_l07Draw.l0]
    exact ev_neg (by omega) (ev_now e1 (ev_neg c0 (ev_neg c1 (ev_neg c2 (ev_pos c3 (ev_now e2 (ev_pos (by omega) (Ev.now _))))))))
   ·simp;omega
   ·simp only[List.mem_cons,List.not_mem_nil,or_false]at hz
    unfold okF
    dsimp only
    omega
  ·refine⟨way,a1,s1,ev_succ ?_,?_,ho,h1.less (by omega)⟩
   ·simp only[spec_l07Draw.l0]
    exact ev_neg (by omega) (ev_now e1 (ev_neg c0 (ev_neg c1 (ev_neg c2 (ev_neg c3 (Ev.now _))))))
   ·omega
 |d+1,way,at_,sd,hd,hl,ho,hs=>by
  obtain⟨i,a1,s1,e1,i0,i1,h1⟩:=pick_ev c at_ sd (way.length:Int) (m+4+4*d+2) (hs.less (by omega))
  obtain⟨j,a2,s2,e2,j0,j1,h2⟩:=pick_ev c a1 s1 (way.length:Int) (m+4+4*d) h1
  have hi:i<(way.length:Int):=by omega
  have hj:j<(way.length:Int):=by omega
  by_cases hb:(rd_T51 way i).f0=(rd_T51 way j).f0
  ·obtain⟨t,a3,s3,e3,l3,o3,h3⟩:=drawF_l0 c m d ((way.set i.toNat ⟨(rd_T51 way j).f0,(rd_T51 way j).f1⟩).set j.toNat ⟨(rd_T51 way i).f0,(rd_T51 way i).f1⟩) a2 s2 (by omega) (by simp;omega) (okFs_set (okFs_set ho _ _ (okF_rd ho j)) _ _ (okF_rd ho i)) h2
   refine⟨t,a3,s3,ev_succ ?_,l3,o3,h3⟩
   simp only[spec_l07Draw.l0]
   rw[w64 (x:=((d+1:Nat):Int) - 1) (by omega) (by omega),show((d+1:Nat):Int) - 1=(d:Int) by omega]
   exact ev_pos (by omega) (ev_now e1 (ev_now e2 (ev_pos i0 (ev_pos hi (ev_pos j0 (ev_pos hj (ev_pos hb e3)))))))
  ·obtain⟨t,a3,s3,e3,l3,o3,h3⟩:=drawF_l0 c m d way a2 s2 (by omega) hl ho h2
   refine⟨t,a3,s3,ev_succ ?_,l3,o3,h3⟩
   simp only[spec_l07Draw.l0]
   rw[w64 (x:=((d+1:Nat):Int) - 1) (by omega) (by omega),show((d+1:Nat):Int) - 1=(d:Int) by omega]
   exact ev_pos (by omega) (ev_now e1 (ev_now e2 (ev_pos i0 (ev_pos hi (ev_pos j0 (ev_pos hj (ev_neg hb e3)))))))
theorem drawF_ev (c:List Int) (m:Nat) (at_ sd:Int) (p:Pu) (h:Sr c at_ (m+30)):
  ∃(t:List S51) (a' s':Int),Ev (fun k=>spec_l07Draw.f k c at_ sd p.f0 p.f1 p.f2) (t,a',s')∧t.length≤9∧okFs t∧Sr c a' m:=by
 by_cases hp:okP p
 ·have e0:=(plain_ok hp).1
  have hb:=hp
  obtain⟨g0,g1,g2,_⟩:=hb
  obtain⟨q,a1,s1,e1,q0,q1,h1⟩:=pick_ev c at_ sd 4 (m+28) h
  obtain⟨d,hd⟩: ∃d:Nat,q=(d:Int):=⟨q.toNat,by omega⟩
  subst hd
  obtain⟨t,a2,s2,e2,l2,o2,h2⟩:=drawF_l0 c m d (plL p (p.f0+p.f1).toNat) a1 s1 (by omega) (by rw[plL_len];omega) (okF_plain p (by omega)) (h1.less (by omega))
  refine⟨t,a2,s2,?_,l2,o2,h2⟩
  simp only[spec_l07Draw.f]
  exact Ev.bind e0 (ev_pos rfl (ev_now e1 e2))
 ·have e0:=(plain_no hp).1
  refine⟨[],at_,sd,?_,by simp,(fun x hx=>by cases hx),h.less (by omega)⟩
  simp only[spec_l07Draw.f]
  exact Ev.bind e0 (ev_neg (by decide) (Ev.now _))
theorem anyP_ev (c:List Int) (m:Nat) (at_ sd:Int) (h:Sr c at_ (m+60)):
  ∃(p:Pu) (a' s':Int),Ev (fun k=>spec_l05Any.f k c at_ sd) (p.f0,p.f1,p.f2,a',s')∧Sr c a' m:=by
 obtain⟨t,a1,s1,e1,l1,h1⟩:=bentT_ev c m at_ sd h
 by_cases h0:(t.length:Int)=0
 ·refine⟨⟨0,0,false⟩,a1,s1,?_,h1⟩
  simp only[spec_l05Any.f]
  exact Ev.bind e1 (ev_pos h0 (Ev.now _))
 ·refine⟨⟨(rd_T25 t 0).f0,(rd_T25 t 0).f1,(rd_T25 t 0).f2⟩,a1,s1,?_,h1⟩
  simp only[spec_l05Any.f]
  exact Ev.bind e1 (ev_neg h0 (ev_pos (by show(0:Int)<(t.length:Int);omega) (Ev.now _)))
theorem allW_ev (c:List Int) (h: ∀x∈c,(Lit.int .u8 x).wf=true): ∃(p:Pu) (t:List S51),t.length≤9∧Ev (fun k=>spec_l07All.f k c) (p.f0,p.f1,p.f2,t):=by
 obtain⟨p,a1,s1,e1,h1⟩:=anyP_ev c 100 0 0 ((Sr.start h).less (by omega))
 obtain⟨t,a2,s2,e2,l2,_,h2⟩:=drawF_ev c 70 a1 s1 p h1
 have e0:spec_l00From.f c=some (c,0,0):=rfl
 refine⟨p,t,l2,?_⟩
 simp only[spec_l07All.f]
 exact ev_now e0 (Ev.bind e1 (Ev.bind e2 (Ev.now _)))
theorem newP_ev (c:List Int) (at_ sd:Int) (m:Nat) (h:Sr c at_ (m+4)): ∃(p:Pu) (a' s':Int),spec_l05New.f c at_ sd=some (p.f0,p.f1,p.f2,a',s')∧Sr c a' m:=by
 obtain⟨r,a',s',e,r0,r1,hs⟩:=pick_ev c at_ sd 8 (m+2) h
 obtain⟨b,b',t',e',hs'⟩:=one_ev c a' s' 2 m hs
 unfold spec_l05New.f
 rw[e,Option.bind_some,e',Option.bind_some]
 cases b with
 |true=>exact⟨⟨_,_,_⟩,_,_,if_pos rfl,hs'⟩
 |false=>exact⟨⟨_,_,_⟩,_,_,if_neg (by simp),hs'⟩
theorem drawReadW_ev (c:List Int) (h: ∀x∈c,(Lit.int .u8 x).wf=true): ∃x:ByteArray,Ev (fun k=>spec_DrawReadWay.f k c) x∧x.size≤3000:=by
 have e0:spec_l00From.f c=some (c,0,0):=rfl
 obtain⟨p,a1,s1,e1,h1⟩:=newP_ev c 0 0 100 ((Sr.start h).less (by omega))
 obtain⟨t,a2,s2,e2,l2,o2,h2⟩:=drawF_ev c 70 a1 s1 p h1
 obtain⟨x,e3,z⟩:=textF_l0 t o2 l2 t.length 0 ⟨#[]⟩ (by omega) (by decide)
 have e3:Ev (fun k=>spec_l07Text.f k t) x:=by simp only[spec_l07Text.f];exact e3
 obtain⟨q,a3,s3,e4,q0,q1,h3⟩:=pick_ev c a2 s2 6 60 (h2.less (by omega))
 obtain⟨r1,a4,s4,e5,z5⟩:=spoil_ev c a3 s3 50 (h3.less (by omega)) x (by omega)
 obtain⟨r2,a5,s5,e6,z6,_⟩:=srcText_ev c a3 s3 50 (h3.less (by omega)) ([(⟨#[102,48,32,109,48,32,102,49,32,109,49,32,102,50,32,109,50,32,102,51,32,109,51]⟩:ByteArray),(⟨#[102,48,32,109,48,32,102,49,32,109,49,32,102,50,32,109,50,32,102,51,32,109,51,32,102,48]⟩:ByteArray),(⟨#[102,52]⟩:ByteArray),(⟨#[109,51]⟩:ByteArray),(⟨#[102,48,32,32,109,48]⟩:ByteArray),(⟨#[120,48]⟩:ByteArray)]) (by simp)
 have z7:r2.size≤100:=by
  simp only[List.mem_cons,List.not_mem_nil,or_false]at z6
  rcases z6 with rfl|rfl|rfl|rfl|rfl|rfl <;> decide
 have j0: ∀b:Bool,∃y:ByteArray,Ev (fun k=>spec_DrawReadWay.j0 k x q b c a3 s3) y∧y.size≤3000:=by
  intro b
  cases b with
  |true=>
   refine⟨r1,ev_succ ?_,z5⟩
   simp only[spec_DrawReadWay.j0]
   exact ev_pos (by trivial) (ev_now e5 (Ev.now _))
  |false=>
   by_cases q2:q=2
   ·refine⟨r2,ev_succ ?_,by omega⟩
    simp only[spec_DrawReadWay.j0]
    exact ev_neg (by simp) (ev_pos q2 (ev_now e6 (Ev.now _)))
   ·refine⟨x,ev_succ ?_,by omega⟩
    simp only[spec_DrawReadWay.j0]
    exact ev_neg (by simp) (ev_neg q2 (Ev.now _))
 simp only[spec_DrawReadWay.f]
 by_cases q2:q=0
 ·obtain⟨y,ey,hy⟩:=j0 (q == 0)
  exact⟨y,ev_now e0 (ev_now e1 (Ev.bind e2 (Ev.bind e3 (ev_now e4 (ev_pos q2 ey))))),hy⟩
 ·obtain⟨y,ey,hy⟩:=j0 (q == 1)
  exact⟨y,ev_now e0 (ev_now e1 (Ev.bind e2 (Ev.bind e3 (ev_now e4 (ev_neg q2 ey))))),hy⟩
theorem drawSameW_ev (c:List Int) (h: ∀x∈c,(Lit.int .u8 x).wf=true): ∃a b:List S51,Ev (fun k=>spec_DrawSameWay.f k c) (a,b)∧a.length≤100∧b.length≤100:=by
 obtain⟨p,t,l,e1⟩:=allW_ev c h
 have e0:spec_l00From.f c=some (c,0,0):=rfl
 have hS:=(Sr.start h).less (m:=100) (by omega)
 obtain⟨b1,a2,s2,e2,h2⟩:=one_ev c 0 0 2 84 (hS.less (by omega))
 have hl:([]:List S51).length+t.length<8796093022208:=by simp;omega
 have j0: ∀(b:Bool) (at_ sd:Int) (y:List S51),y.length≤9→(b=true→0<y.length)→Sr c at_ 80→ ∃z:List S51,Ev (fun k=>spec_DrawSameWay.j0 k t y b c at_ sd) (t,z)∧z.length≤100:=by
  intro b at_ sd y hy aA hs
  cases b with
  |true=>
   have:=aA rfl
   obtain⟨q,a3,s3,e3,_,_,h3⟩:=pick_ev c at_ sd 2 78 hs
   obtain⟨b2,a4,s4,e4,h4⟩:=one_ev c a3 s3 5 70 (h3.less (by omega))
   cases b2 with
   |true=>
    refine⟨(y.set (0:Int).toNat ⟨(rd_T51 y 0).f0,wrap64 ((rd_T51 y 0).f1+q)⟩) ++ [⟨0,0⟩],ev_succ ?_,?_⟩
    ·simp only[spec_DrawSameWay.j0]
     exact ev_pos (by trivial) (ev_pos (by omega) (ev_now e3 (ev_now rfl (ev_now e4 (ev_pos rfl (ev_pos (by simp;omega) (Ev.now _)))))))
    ·simp;omega
   |false=>
    refine⟨y.set (0:Int).toNat ⟨(rd_T51 y 0).f0,wrap64 ((rd_T51 y 0).f1+q)⟩,ev_succ ?_,?_⟩
    ·simp only[spec_DrawSameWay.j0]
     exact ev_pos (by trivial) (ev_pos (by omega) (ev_now e3 (ev_now rfl (ev_now e4 (ev_neg (by simp) (Ev.now _))))))
    ·simp;omega
  |false=>
   obtain⟨b2,a4,s4,e4,h4⟩:=one_ev c at_ sd 5 70 (hs.less (by omega))
   cases b2 with
   |true=>
    refine⟨y ++ [⟨0,0⟩],ev_succ ?_,?_⟩
    ·simp only[spec_DrawSameWay.j0]
     exact ev_neg (by simp) (ev_now e4 (ev_pos rfl (ev_pos (by omega) (Ev.now _))))
    ·simp;omega
   |false=>
    refine⟨y,ev_succ ?_,?_⟩
    ·simp only[spec_DrawSameWay.j0]
     exact ev_neg (by simp) (ev_now e4 (ev_neg (by simp) (Ev.now _)))
    ·omega
 simp only[spec_DrawSameWay.f]
 by_cases g:(t.length:Int) > 0
 ·obtain⟨z,ez,hz⟩:=j0 b1 a2 s2 ([] ++ t) (by rw[List.nil_append];exact l) (fun _=>by rw[List.nil_append];omega) (h2.less (by omega))
  exact⟨t,z,Ev.bind e1 (ev_now e0 (ev_now rfl (ev_pos hl (ev_now rfl (ev_pos (by rw[List.nil_append];exact g) (ev_now e2 ez)))))),by omega,hz⟩
 ·obtain⟨z,ez,hz⟩:=j0 false 0 0 ([] ++ t) (by rw[List.nil_append];exact l) (fun h=>by cases h) (hS.less (by omega))
  exact⟨t,z,Ev.bind e1 (ev_now e0 (ev_now rfl (ev_pos hl (ev_now rfl (ev_neg (by rw[List.nil_append];exact g) ez))))),by omega,hz⟩
theorem ev_rnd {α:Type} {g:Nat→Option α} {r:α} (h:Ev g r): ∃k,g k=some r:=by
 obtain⟨K,h⟩:=h
 exact⟨K,h K (Nat.le_refl _)⟩
theorem sameW_l0 (x0:List S51) (hn:x0.length≤1048576): ∀(d i:Nat),i+d=x0.length→Ev (fun k=>spec_SameWay.l0 k x0 x0 (i:Int)) true
 |0,i,hd=>by
  refine ev_succ ?_
  simp only[spec_SameWay.l0]
  exact ev_neg (by omega) (Ev.now _)
 |d+1,i,hd=>by
  refine ev_succ ?_
  simp only[spec_SameWay.l0]
  rw[w64s (by omega)]
  exact ev_pos (by omega) (ev_pos (by omega) (ev_pos (by omega) (ev_neg (by simp) (sameW_l0 x0 hn d (i+1) (by omega)))))
theorem sameW_ev (l:List S51) (hn:l.length≤1048576):Ev (fun k=>spec_SameWay.f k l l) true:=by
 simp only[spec_SameWay.f]
 exact ev_pos (by trivial) (sameW_l0 l hn l.length 0 (by omega))
def sameS2 (x y:S51):Bool:=!(!(x.f0 == y.f0) || (!(x.f1 == y.f1)))
def eqLS:List S51→List S51→Bool
 |x :: a,y :: b=>sameS2 x y && eqLS a b
 |_,_=>true
theorem eqLS_drop {a b:List S51} {i:Nat} (h:i<a.length) (h':i<b.length):eqLS (a.drop i) (b.drop i)=(sameS2 a[i] b[i] && eqLS (a.drop (i+1)) (b.drop (i+1))):=by
 rw[List.drop_eq_getElem_cons h,List.drop_eq_getElem_cons h'];rfl
theorem eqLS_end {a b:List S51} {i:Nat} (h:a.length≤i):eqLS (a.drop i) (b.drop i)=true:=by
 rw[List.drop_eq_nil_of_le h];rfl
theorem eqSS_l0 (a b:List S51) (hl:a.length=b.length) (hn:a.length≤1048576): ∀(d i:Nat),i+d=a.length→Ev (fun k=>spec_SameWay.l0 k a b (i:Int)) (eqLS (a.drop i) (b.drop i))∧Ev (fun k=>impl_Stop_54.l0 k a b (a.length:Int) (i:Int)) (eqLS (a.drop i) (b.drop i))
 |0,i,hd=>by
  rw[eqLS_end (by omega)]
  refine⟨ev_succ ?_,ev_succ ?_⟩
  ·simp only[spec_SameWay.l0];exact ev_neg (by omega) (Ev.now _)
  ·simp only[impl_Stop_54.l0];exact ev_neg (by omega) (Ev.now _)
 |d+1,i,hd=>by
  have hi:i<a.length:=by omega
  have hi':i<b.length:=by omega
  obtain⟨aA,aB⟩:=eqSS_l0 a b hl hn d (i+1) (by omega)
  rw[eqLS_drop hi hi']
  refine⟨ev_succ ?_,ev_succ ?_⟩
  ·simp only[spec_SameWay.l0]
   rw[rdIStop hi,rdIStop hi',w64s (by omega)]
   refine ev_pos (by omega) (ev_pos (by omega) (ev_pos (by omega) (ev_if (fun g=>ev_some ?_) (fun g=>?_))))
   ·unfold sameS2;rw[g];rfl
   ·unfold sameS2;rw[Bool.eq_false_iff.2 g];simpa using aA
  ·simp only[impl_Stop_54.l0]
   rw[rdIStop hi,rdIStop hi',w64s (by omega)]
   refine ev_pos (by omega) (ev_pos (by omega) (ev_pos (by omega) (ev_pos (by omega) (ev_if (fun g=>ev_some ?_) (fun g=>?_)))))
   ·unfold sameS2;rw[g];rfl
   ·unfold sameS2;rw[Bool.eq_false_iff.2 g];simpa using aB
theorem same_both (a b:List S51) (hn:a.length≤1048576): ∃r:Bool,Ev (fun k=>spec_SameWay.f k a b) r∧Ev (fun k=>impl_SameWay.f k a b) r:=by
 simp only[spec_SameWay.f,impl_SameWay.f,impl_Stop_54.f]
 by_cases h:(a.length:Int)=(b.length:Int)
 ·obtain⟨e1,e2⟩:=eqSS_l0 a b (by omega) hn a.length 0 (by omega)
  exact⟨_,ev_pos h e1,Ev.bind (ev_pos h e2) (Ev.now _)⟩
 ·exact⟨false,ev_neg h (Ev.now _),Ev.bind (ev_neg h (Ev.now _)) (Ev.now _)⟩
theorem intsE_l0 (a:List Int) (hn:a.length≤1048576): ∀(d i:Nat),i+d=a.length→Ev (fun k=>laws_f6ints.l0 k a a (i:Int)) true
 |0,i,hd=>by
  refine ev_succ ?_;simp only[laws_f6ints.l0];exact ev_neg (by omega) (Ev.now _)
 |d+1,i,hd=>by
  refine ev_succ ?_;simp only[laws_f6ints.l0]
  rw[w64s (by omega)]
  exact ev_pos (by omega) (ev_pos (by omega) (ev_pos (by omega) (ev_pos (by trivial) (intsE_l0 a hn d (i+1) (by omega)))))
theorem intsE_ev (a:List Int) (hn:a.length≤1048576):Ev (fun k=>laws_f6ints.f k a a) true:=by
 simp only[laws_f6ints.f]
 exact ev_pos (by trivial) (intsE_l0 a hn a.length 0 (by omega))
theorem listsE_l0 (L:List (List Int)) (h2: ∀y∈L,y.length=2) (hn:L.length≤1048576): ∀(d i:Nat),i+d=L.length→Ev (fun k=>laws_f6lists.l0 k L L (i:Int)) true
 |0,i,hd=>by
  refine ev_succ ?_;simp only[laws_f6lists.l0];exact ev_neg (by omega) (Ev.now _)
 |d+1,i,hd=>by
  have hi:i<L.length:=by omega
  refine ev_succ ?_;simp only[laws_f6lists.l0]
  rw[w64s (by omega),rdL hi]
  exact ev_pos (by omega) (ev_pos (by omega) (ev_pos (by omega) (Ev.bind (intsE_ev L[i] (by rw[h2 _ (List.getElem_mem hi)];omega)) (ev_pos (by trivial) (listsE_l0 L h2 hn d (i+1) (by omega))))))
theorem listsE_ev (L:List (List Int)) (h2: ∀y∈L,y.length=2) (hn:L.length≤1048576):Ev (fun k=>laws_f6lists.f k L L) true:=by
 simp only[laws_f6lists.f]
 exact ev_pos (by trivial) (listsE_l0 L h2 hn L.length 0 (by omega))
theorem FnWays:laws_FnWays.Pure:=by
 intro c _ _ hc
 refine ev_rnd ?_
 simp only[laws_FnWays.f]
 refine ev_now (show laws_f6big.f c=some (decide ((c.length:Int) > 4096))from rfl) (ev_if (fun _=>Ev.now _) (fun _=>?_))
 obtain⟨p,w,aF,dall⟩:=allW_ev c hc
 have d1:Ev (fun k=>spec_DrawMirrorWay.f k c) (p.f0,p.f1,p.f2,w):=by simp only[spec_DrawMirrorWay.f];exact Ev.bind dall (Ev.now _)
 obtain⟨bad,x,L,t,bk,ok,m1,m2,q1,q2,t1,t2,r1,aE,aC,aH,hback,hbad,hfine⟩:=way_all p w aF
 obtain⟨nm,at_,one,f1,f2,f3,f4,f5,f6⟩:=fault_all p w (by omega)
 obtain⟨pl,five,a1,a2,aI,hfive⟩: ∃(pl:List S51) (five:Int),Ev (fun k=>impl_PlainWay.f k p.f0 p.f1 p.f2) (pl,five)∧Ev (fun k=>spec_PlainWay.f k p.f0 p.f1 p.f2) (pl,five)∧pl.length≤9∧(five=0→okP p∧pl=plL p (p.f0+p.f1).toNat):=by
  by_cases hp:okP p
  ·have g:=hp
   obtain⟨g0,g1,g2,_⟩:=g
   exact⟨_,0,(plain_ok hp).2,(plain_ok hp).1,by rw[plL_len];omega,fun _=>⟨hp,rfl⟩⟩
  ·exact⟨[],1,(plain_no hp).2,(plain_no hp).1,by simp,fun h=>absurd h (by decide)⟩
 obtain⟨s,d2,hs⟩:=drawReadW_ev c hc
 obtain⟨u,nine,aK,u2,u1⟩:=read_both s (by omega)
 obtain⟨a,b,d3,la,lb⟩:=drawSameW_ev c hc
 obtain⟨sm,s2,s1⟩:=same_both a b (by omega)
 have sx:=sameW_ev x (by omega)
 have sp:=sameW_ev pl (by omega)
 have su:=sameW_ev u (by omega)
 have sL:=listsE_ev L aC (by omega)
 have j2:Ev (fun k=>laws_FnWays.j2 k w x bad L p.f0 p.f1 p.f2) true:=by
  refine ev_succ ?_;simp only[laws_FnWays.j2]
  refine ev_if (fun z=>?_) (fun _=>Ev.now _)
  obtain⟨hp,hw,hx,hL⟩:=hbad z
  have hlen:=okW_len hp hw
  have hxw:=mir_okW hp hw
  obtain⟨c2,x2,L2,t2',aJ,aL,mm,_,_,_,_,_,_,_,_,_,_,aB,aD⟩:=way_all p x aE
  rw[← hx]at hxw
  have aG:=aD hp hxw
  subst aG
  obtain⟨_,_,aA,_⟩:=aB rfl
  rw[hx,mir_mir hp hw]at aA
  have k1:=cross_ok hp hw
  have k2:=cross_ok hp hxw
  have k3:crN x=crN w:=by rw[hx];exact mir_cross hp hw
  have hg:=hp
  obtain⟨g0,g1,g2,_⟩:=hg
  have hl:=prL_len w (w.length - 1)
  refine Ev.bind mm (Ev.bind k1 (Ev.bind k2 (ev_pos rfl (Ev.bind (a:=true) ?_ (ev_pos rfl (ev_pos rfl (ev_pos rfl (ev_pos k3.symm (ev_some ?_)))))))))
  ·show Ev (fun k=>spec_SameWay.f k x2 w) true
   rw[aA];exact sameW_ev w (by omega)
  ·rw[hL,hl,beq_iff_eq,w64 (by omega) (by omega)]
   omega
 have j1:Ev (fun k=>laws_FnWays.j1 k w x bad five pl L false p.f0 p.f1 p.f2) true:=by
  refine ev_succ ?_;simp only[laws_FnWays.j1]
  refine ev_neg (by simp) (ev_if (fun z=>?_) (fun _=>j2))
  obtain⟨hp,rfl⟩:=hfive z
  have hg:=hp
  obtain⟨g0,g1,g2,_⟩:=hg
  have hw:=plain_okW hp
  obtain⟨nm',at',e',_,_,i3,_,i5,i6⟩:=fault_all p (plL p (p.f0+p.f1).toNat) (by omega)
  rw[i6 hw hp,i5 hp]at i3
  have k1:=cross_ok hp hw
  refine Ev.bind i3 (Ev.bind k1 (ev_pos rfl (ev_pos rfl (ev_pos rfl (ev_pos (plain_cross hp) (ev_pos ?_ j2))))))
  rw[plL_len,w64 (by omega) (by omega)]
  omega
 have j0:Ev (fun k=>laws_FnWays.j0 k w x bad nm (nm.toList == ([110,111,110,101]:List UInt8)) one five pl L false p.f0 p.f1 p.f2) true:=by
  refine ev_succ ?_;simp only[laws_FnWays.j0]
  refine ev_neg (by simp) (ev_if (fun _=>?_) (fun _=>j1))
  rw[show((nm.toList == ([110,111,110,101]:List UInt8)) != (nm.toList == ([110,111,110,101]:List UInt8)))=false by simp]
  exact j1
 refine Ev.bind d1 (Ev.bind m1 (Ev.bind m2 (Ev.bind f1 (Ev.bind f2 (Ev.bind f3 (Ev.bind f4 (Ev.bind a1 (Ev.bind a2 (Ev.bind q1 (Ev.bind q2 (Ev.bind t1 (Ev.bind r1 (Ev.bind d2 (Ev.bind u1 (Ev.bind u2 (Ev.bind d3 ?_))))))))))))))))
 refine ev_pos rfl (Ev.bind sx (ev_pos rfl (ev_pos rfl (ev_pos rfl (ev_pos rfl (ev_pos rfl (ev_neg (by simp) (ev_pos rfl (Ev.bind sp (ev_pos rfl (ev_pos rfl (Ev.bind sL (ev_pos rfl (Ev.bind t2 (ev_pos rfl (ev_if (fun z=>?_) (fun z=>?_)))))))))))))))))
 ·refine ev_neg (by simp) (Ev.bind su (ev_pos rfl (Ev.bind s1 (Ev.bind s2 ?_))))
  rw[show(sm != sm)=false by simp]
  exact j0
 ·obtain⟨hok,hbk⟩:=hback z
  subst hbk
  refine ev_pos hok (Ev.bind (sameW_ev bk (by omega)) (ev_pos rfl (ev_neg (by simp) (Ev.bind su (ev_pos rfl (Ev.bind s1 (Ev.bind s2 ?_)))))))
  rw[show(sm != sm)=false by simp]
  exact j0
end Go.Proofs.YtifdihbndlmgpaaGreatDoor.PureFnWays
namespace Go.Proofs.YtifdihbndlmgpaaGreatDoor.Pure
open Go.Proofs.YtifdihbndlmgpaaGreatDoor.HWys
theorem FnWays:laws_FnWays.Pure:=PureFnWays.FnWays
end Go.Proofs.YtifdihbndlmgpaaGreatDoor.Pure
