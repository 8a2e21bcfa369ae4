/- The program's function answers as the statement says. Conditions: none beyond the given statement's own. -/
import Derived.Test.YtebbdadpgapobaaHElx16
import Derived.Test.YtebbdadpgapobaaLib
import Derived.Test.YtebbdadpgapobaaLibAlt
import Derived.Test.YtebbdadpgapobaaLibFrac
set_option linter.unusedVariables false
set_option linter.unusedSimpArgs false
namespace Go.Proofs.Ytebbdadpgapobaa.PureFnExactSolveBars
open Go.RowKit Go.Proofs.Ytebbdadpgapobaa.HEl Go.Proofs.YtebbdadpgapobaaW.PrintWords Go.Proofs.YtebbdadpgapobaaW.PrintLast Go.Proofs.YtebbdadpgapobaaW.PrintMore Go.Proofs.Ytebbdadpgapobaa.Lib
theorem l00In_eq (a b c:Int):spec_l00In.f a b c=some (decide (b≤a∧a≤c)):=by
 unfold spec_l00In.f;by_cases h:a≥b <;> simp[h]
theorem within_eq (a b c:Int):impl_within.f a b c=some (decide (b≤a∧a≤c)):=by
 unfold impl_within.f;by_cases h:a≥b <;> simp[h]
def convKnot (x:S126):S90:=⟨x.f0,x.f1,x.f2⟩
theorem rdLKnot {xs:List S126} {i:Nat} (h:i<xs.length):rd_T126 xs (i:Int)=xs[i]:=by
 unfold rd_T126;simp[List.getD_eq_getElem?_getD,h]
theorem rdIKnot {xs:List S90} {i:Nat} (h:i<xs.length):rd_T90 xs (i:Int)=xs[i]:=by
 unfold rd_T90;simp[List.getD_eq_getElem?_getD,h]
theorem toKnotS_l0 (x0:List S126) (hn:x0.length≤1048576): ∀(d i:Nat) (x3:List S90),i+d=x0.length→x3.length=x0.length→x3.take i=(x0.map convKnot).take i→
 Ev (fun k=>laws_toKnotS.l0 k x0 x3 (i:Int)) (x0.map convKnot)
 |0,i,x3,hd,hl,ht=>by
  refine ev_succ ?_
  simp only[laws_toKnotS.l0]
  refine ev_neg (by omega) (ev_some ?_)
  rw[List.take_of_length_le (by omega),List.take_of_length_le (by simp;omega)]at ht;exact ht
 |d+1,i,x3,hd,hl,ht=>by
  refine ev_succ ?_
  simp only[laws_toKnotS.l0]
  refine ev_pos (by omega) (ev_pos (by omega) (ev_now rfl (ev_pos (by omega) ?_)))
  rw[w64s (by omega),Int.toNat_natCast,rdLKnot (by omega)]
  exact toKnotS_l0 x0 hn d (i+1) _ (by omega) (by simpa using hl) (take_set _ _ _ _ (by omega) (by simp;omega) ht (by simp[convKnot]))
theorem toKnotS_ev (l:List S126) (hn:l.length≤1048576):Ev (fun k=>laws_toKnotS.f k l) (l.map convKnot):=by
 simp only[laws_toKnotS.f]
 refine ev_pos (by omega) (ev_pos (by omega) ?_)
 exact toKnotS_l0 l (by omega) l.length 0 _ (by omega) (by simp) (by simp)
def convBar (x:S128):S104:=⟨x.f0,x.f1,x.f2⟩
theorem rdLBar {xs:List S128} {i:Nat} (h:i<xs.length):rd_T128 xs (i:Int)=xs[i]:=by
 unfold rd_T128;simp[List.getD_eq_getElem?_getD,h]
theorem rdIBar {xs:List S104} {i:Nat} (h:i<xs.length):rd_T104 xs (i:Int)=xs[i]:=by
 unfold rd_T104;simp[List.getD_eq_getElem?_getD,h]
theorem toBarS_l0 (x0:List S128) (hn:x0.length≤1048576): ∀(d i:Nat) (x3:List S104),i+d=x0.length→x3.length=x0.length→x3.take i=(x0.map convBar).take i→
 Ev (fun k=>laws_toBarS.l0 k x0 x3 (i:Int)) (x0.map convBar)
 |0,i,x3,hd,hl,ht=>by
  refine ev_succ ?_
  simp only[laws_toBarS.l0]
  refine ev_neg (by omega) (ev_some ?_)
  rw[List.take_of_length_le (by omega),List.take_of_length_le (by simp;omega)]at ht;exact ht
 |d+1,i,x3,hd,hl,ht=>by
  refine ev_succ ?_
  simp only[laws_toBarS.l0]
  refine ev_pos (by omega) (ev_pos (by omega) (ev_now rfl (ev_pos (by omega) ?_)))
  rw[w64s (by omega),Int.toNat_natCast,rdLBar (by omega)]
  exact toBarS_l0 x0 hn d (i+1) _ (by omega) (by simpa using hl) (take_set _ _ _ _ (by omega) (by simp;omega) ht (by simp[convBar]))
theorem toBarS_ev (l:List S128) (hn:l.length≤1048576):Ev (fun k=>laws_toBarS.f k l) (l.map convBar):=by
 simp only[laws_toBarS.f]
 refine ev_pos (by omega) (ev_pos (by omega) ?_)
 exact toBarS_l0 l (by omega) l.length 0 _ (by omega) (by simp) (by simp)
theorem l09Ok_ev (ks:List S90) (bs:List S104):Ev (fun k=>spec_l09Ok.f k ks bs) (okF ks bs):=Ev.now _
def freeL:Nat→List S90→List Int
 |_,[]=>[]
 |i,k :: l=>if k.f2=true then freeL (i+1) l else(i:Int) :: freeL (i+1) l
theorem freeL_length: ∀(l:List S90) (i:Nat),(freeL i l).length=freeC l
 |[],i=>rfl
 |k :: l,i=>by
  have ih:=freeL_length l (i+1)
  unfold freeC at ih ⊢
  rw[freeL,List.filter_cons]
  cases h:k.f2 <;> simp[ih]
theorem freeKnots_l0 (ks:List S90) (hk:ks.length≤8): ∀(d i:Nat) (o:List Int),i+d=ks.length→o.length≤i→
 Ev (fun k=>impl_freeKnots.l0 k o ks (ks.length:Int) (i:Int)) (o ++ freeL i (ks.drop i))
 |0,i,o,hd,ho=>by
  refine ev_succ ?_;simp only[impl_freeKnots.l0]
  refine ev_neg (by omega) (ev_some ?_)
  rw[show ks.drop i= [] by simp;omega];simp[freeL]
 |d+1,i,o,hd,ho=>by
  have hi:i<ks.length:=by omega
  refine ev_succ ?_;simp only[impl_freeKnots.l0]
  rw[rdIKnot hi,w64s (by omega),List.drop_eq_getElem_cons hi]
  simp only[freeL]
  refine ev_pos (by omega) (ev_pos (by omega) (ev_pos (by omega) (ev_if (fun h=>?_) (fun h=>ev_pos (by omega) ?_))))
  ·rw[if_pos h]
   exact freeKnots_l0 ks hk d (i+1) o (by omega) (by omega)
  ·rw[if_neg h]
   have:=freeKnots_l0 ks hk d (i+1) (o ++ [(i:Int)]) (by omega) (by simp;omega)
   simpa using this
theorem freeKnots_ev (ks:List S90) (bs:List S104) (hk:ks.length≤8):Ev (fun k=>impl_freeKnots.f k ks bs) (freeL 0 ks):=by
 simp only[impl_freeKnots.f]
 simpa using freeKnots_l0 ks hk ks.length 0 [] (by omega) (by simp)
theorem i_l3 (ks:List S90) (bs:List S104) (i:Nat) (hi:i<bs.length) (hb:bs.length≤8) (a b:Int) (c:Bool) (r:Bool) (h1:anyB (bs.take i) a b=true→r=false)
 (h2:anyB (bs.take i) a b=false→Ev (fun k=>impl_ValidFrame.l2 k bs (bs.length:Int) ((i+1:Nat):Int) ks bs) r): ∀(d j:Nat),j+d=i→anyB (bs.take i) a b=anyB ((bs.take i).drop j) a b→
 Ev (fun k=>impl_ValidFrame.l3 k bs (bs.length:Int) (i:Int) (bs.take i) ((bs.take i).length:Int) (j:Int) ks bs a b c) r
 |0,j,hd,hs=>by
  have hl:(bs.take i).length=i:=by simp;omega
  refine ev_succ ?_;simp only[impl_ValidFrame.l3]
  rw[w64s (i:=i) (by omega)]
  refine ev_neg (by omega) (h2 ?_)
  rw[hs,show(bs.take i).drop j= [] by simp;omega];rfl
 |d+1,j,hd,hs=>by
  have hl:(bs.take i).length=i:=by simp;omega
  have hj:j<(bs.take i).length:=by omega
  rw[anyB_drop hj]at hs
  refine ev_succ ?_;simp only[impl_ValidFrame.l3]
  rw[rdIBar hj,w64s (i:=j) (by omega)]
  have next:((bs.take i)[j].f0 == a && (bs.take i)[j].f1 == b)=false→Ev (fun k=>impl_ValidFrame.l3 k bs (bs.length:Int) (i:Int) (bs.take i) ((bs.take i).length:Int) ((j+1:Nat):Int) ks bs a b c) r:=fun g=>by
   refine i_l3 ks bs i hi hb a b c r h1 h2 d (j+1) (by omega) ?_
   rw[hs,g];rfl
  refine ev_pos (by omega) (ev_pos (by omega) (ev_pos (by omega) (ev_if (fun g1=>ev_if (fun g2=>ev_some ?_) (fun g2=>next ?_)) (fun g1=>next ?_))))
  ·symm;apply h1;rw[hs,g1,g2];simp
  ·exact and_f1 g2
  ·exact and_f0 g1
theorem i_l2 (ks:List S90) (bs:List S104) (hk:ks.length≤8) (hb:bs.length≤8): ∀(d i:Nat),i+d=bs.length→
 Ev (fun k=>impl_ValidFrame.l2 k bs (bs.length:Int) (i:Int) ks bs) (okBs ks (bs.take i) (bs.drop i))
 |0,i,hd=>by
  refine ev_succ ?_;simp only[impl_ValidFrame.l2]
  refine ev_neg (by omega) (ev_some ?_)
  rw[show bs.drop i= [] by simp;omega];rfl
 |d+1,i,hd=>by
  have hi:i<bs.length:=by omega
  have ih:=i_l2 ks bs hk hb d (i+1) (by omega)
  rw[okBs_step ks hi]
  have bad: ∀(a b:Int) (c:Bool),Ev (fun k=>impl_ValidFrame.j5 k (i:Int) bs (bs.length:Int) (i:Int) true ks bs a b c) false:=fun a b c=>by
   refine ev_succ ?_;simp only[impl_ValidFrame.j5];exact ev_pos (by trivial) (Ev.now _)
  refine ev_succ ?_;simp only[impl_ValidFrame.l2]
  rw[rdIBar hi]
  generalize hx:bs[i]=x at*
  have nope: ¬(0≤x.f0∧x.f0<x.f1∧x.f1<(ks.length:Int))→barOk ks (bs.take i) x=false:=fun g=>by unfold barOk;rw[decide_eq_false g];rfl
  refine ev_pos (by omega) (ev_pos (by omega) (ev_pos (by omega) (ev_if (fun g1=>?_) (fun g1=>ev_if (fun g2=>?_) (fun g2=>ev_if (fun g3=>?_) (fun g3=>?_))))))
  ·rw[nope (by omega)];exact bad _ _ _
  ·rw[nope (by omega)];exact bad _ _ _
  ·rw[nope (by omega)];exact bad _ _ _
  ·have good:decide (0≤x.f0∧x.f0<x.f1∧x.f1<(ks.length:Int))=true:=decide_eq_true (by omega)
   have main: ∀q:Bool,q=(fixK ks x.f0 && fixK ks x.f1)→Ev (fun k=>impl_ValidFrame.j5 k (i:Int) bs (bs.length:Int) (i:Int) q ks bs x.f0 x.f1 x.f2) (barOk ks (bs.take i) x && okBs ks (bs.take (i+1)) (bs.drop (i+1))):=by
    intro q hq
    unfold barOk;rw[good,← hq]
    refine ev_succ ?_;simp only[impl_ValidFrame.j5]
    refine ev_if (fun h=>ev_some (by rw[h];simp)) (fun h=>?_)
    have h:q=false:=Bool.eq_false_iff.2 h
    refine ev_pos (by omega) (ev_pos (by omega) (ev_now rfl ?_))
    rw[Int.toNat_natCast]
    refine i_l3 ks bs i hi hb x.f0 x.f1 x.f2 _ (fun g=>?_) (fun g=>?_) i 0 (by omega) (by simp)
    ·rw[g];simp
    ·rw[g,h];simpa using ih
   refine ev_pos (by omega) (ev_pos (by omega) (ev_if (fun h=>ev_pos (by omega) (ev_pos (by omega) (main _ ?_))) (fun h=>main _ ?_)))
   ·unfold fixK;rw[h];rfl
   ·unfold fixK;rw[Bool.eq_false_iff.2 h];rfl
theorem i_l1 (ks:List S90) (bs:List S104) (i:Nat) (hi:i<ks.length) (hb:ks.length≤8) (a b:Int) (c:Bool) (r:Bool) (h1:anyK (ks.take i) a b=true→r=false)
 (h2:anyK (ks.take i) a b=false→Ev (fun k=>impl_ValidFrame.l0 k ks (ks.length:Int) ((i+1:Nat):Int) ks bs) r): ∀(d j:Nat),j+d=i→anyK (ks.take i) a b=anyK ((ks.take i).drop j) a b→
 Ev (fun k=>impl_ValidFrame.l1 k ks (ks.length:Int) (i:Int) (ks.take i) ((ks.take i).length:Int) (j:Int) ks bs a b c) r
 |0,j,hd,hs=>by
  have hl:(ks.take i).length=i:=by simp;omega
  refine ev_succ ?_;simp only[impl_ValidFrame.l1]
  rw[w64s (i:=i) (by omega)]
  refine ev_neg (by omega) (h2 ?_)
  rw[hs,show(ks.take i).drop j= [] by simp;omega];rfl
 |d+1,j,hd,hs=>by
  have hl:(ks.take i).length=i:=by simp;omega
  have hj:j<(ks.take i).length:=by omega
  rw[anyK_drop hj]at hs
  refine ev_succ ?_;simp only[impl_ValidFrame.l1]
  rw[rdIKnot hj,w64s (i:=j) (by omega)]
  have next:((ks.take i)[j].f0 == a && (ks.take i)[j].f1 == b)=false→Ev (fun k=>impl_ValidFrame.l1 k ks (ks.length:Int) (i:Int) (ks.take i) ((ks.take i).length:Int) ((j+1:Nat):Int) ks bs a b c) r:=fun g=>by
   refine i_l1 ks bs i hi hb a b c r h1 h2 d (j+1) (by omega) ?_
   rw[hs,g];rfl
  refine ev_pos (by omega) (ev_pos (by omega) (ev_pos (by omega) (ev_if (fun g1=>ev_if (fun g2=>ev_some ?_) (fun g2=>next ?_)) (fun g1=>next ?_))))
  ·symm;apply h1;rw[hs,g1,g2];simp
  ·exact and_f1 g2
  ·exact and_f0 g1
theorem i_l0 (ks:List S90) (bs:List S104) (hk:ks.length≤8) (hb:bs.length≤8): ∀(d i:Nat),i+d=ks.length→
 Ev (fun k=>impl_ValidFrame.l0 k ks (ks.length:Int) (i:Int) ks bs) (okKs (ks.take i) (ks.drop i) && okBs ks [] bs)
 |0,i,hd=>by
  refine ev_succ ?_;simp only[impl_ValidFrame.l0]
  refine ev_neg (by omega) ?_
  have e:=i_l2 ks bs hk hb bs.length 0 (by omega)
  rw[show ks.drop i= [] by simp;omega]
  exact e
 |d+1,i,hd=>by
  have hi:i<ks.length:=by omega
  have ih:=i_l0 ks bs hk hb d (i+1) (by omega)
  rw[okKs_step hi]
  have bad: ∀(a b:Int) (c:Bool),Ev (fun k=>impl_ValidFrame.j2 k (i:Int) ks (ks.length:Int) (i:Int) true ks bs a b c) false:=fun a b c=>by
   refine ev_succ ?_;simp only[impl_ValidFrame.j2];exact ev_pos (by trivial) (Ev.now _)
  refine ev_succ ?_;simp only[impl_ValidFrame.l0]
  rw[rdIKnot hi]
  generalize hx:ks[i]=x at*
  refine ev_pos (by omega) (ev_pos (by omega) (ev_pos (by omega) (ev_now (within_eq _ _ _) (ev_if (fun g1=>ev_now (within_eq _ _ _) ?_) (fun g1=>?_)))))
  ·by_cases g2:0≤x.f1∧x.f1≤12
   ·rw[decide_eq_true g2]
    unfold knotOk;rw[g1,decide_eq_true g2]
    refine ev_succ ?_;simp only[impl_ValidFrame.j2]
    refine ev_neg (by simp) (ev_pos (by omega) (ev_pos (by omega) (ev_now rfl ?_)))
    rw[Int.toNat_natCast]
    refine i_l1 ks bs i hi hk x.f0 x.f1 x.f2 _ (fun g=>?_) (fun g=>?_) i 0 (by omega) (by simp)
    ·rw[g];simp
    ·rw[g];simpa using ih
   ·rw[decide_eq_false g2,show knotOk (ks.take i) x=false by unfold knotOk;rw[decide_eq_false g2];simp]
    exact bad _ _ _
  ·rw[show knotOk (ks.take i) x=false by unfold knotOk;rw[Bool.eq_false_iff.2 g1];simp]
   exact bad _ _ _
theorem validFrame_ev (ks:List S90) (bs:List S104):Ev (fun k=>impl_ValidFrame.f k ks bs) (okF ks bs):=by
 have bad:Ev (fun k=>impl_ValidFrame.j0 k true ks bs) false:=by
  refine ev_succ ?_;simp only[impl_ValidFrame.j0];exact ev_pos (by trivial) (Ev.now _)
 simp only[impl_ValidFrame.f]
 refine ev_if (fun h=>?_) (fun h=>ev_if (fun h8=>?_) (fun h8=>?_))
 ·rw[show okF ks bs=false by unfold okF;rw[decide_eq_false (show¬ks.length≤8 by omega)];rfl];exact bad
 ·rw[show okF ks bs=false by unfold okF;rw[decide_eq_false (show¬bs.length≤8 by omega)];simp];exact bad
 ·refine Ev.bind (freeKnots_ev ks bs (by omega)) ?_
  rw[freeL_length]
  by_cases g:freeC ks≤3
  ·rw[decide_eq_false (show¬(freeC ks:Int) > 3 by omega)]
   have e:=i_l0 ks bs (by omega) (by omega) ks.length 0 (by omega)
   rw[show okF ks bs=(okKs [] ks && okBs ks [] bs) by unfold okF;rw[decide_eq_true (show ks.length≤8 by omega),decide_eq_true (show bs.length≤8 by omega),decide_eq_true g];simp]
   refine ev_succ ?_;simp only[impl_ValidFrame.j0]
   exact ev_neg (by simp) e
  ·rw[decide_eq_true (show(freeC ks:Int) > 3 by omega),show okF ks bs=false by unfold okF;rw[decide_eq_false g];simp]
   exact bad
theorem okKs_all: ∀(l pre:List S90),okKs pre l=true→ ∀k∈l,(0≤k.f0∧k.f0≤12)∧(0≤k.f1∧k.f1≤12)
 |[],_,_,k,hk=>by cases hk
 |x :: l,pre,h,k,hk=>by
  simp only[okKs,Bool.and_eq_true]at h
  rcases List.mem_cons.1 hk with g|g
  ·subst g
   have:=h.1;unfold knotOk at this;simp only[Bool.and_eq_true,decide_eq_true_eq]at this
   exact this.1
  ·exact okKs_all l _ h.2 k g
theorem okBs_all (ks:List S90): ∀(l pre:List S104),okBs ks pre l=true→ ∀b∈l,0≤b.f0∧b.f0<b.f1∧b.f1<(ks.length:Int)
 |[],_,_,b,hb=>by cases hb
 |x :: l,pre,h,b,hb=>by
  simp only[okBs,Bool.and_eq_true]at h
  rcases List.mem_cons.1 hb with g|g
  ·subst g
   have:=h.1;unfold barOk at this;simp only[Bool.and_eq_true,decide_eq_true_eq]at this
   exact this.1.1
  ·exact okBs_all ks l _ h.2 b g
structure OkF (ks:List S90) (bs:List S104):Prop where
 k8:ks.length≤8
 b8:bs.length≤8
 knots: ∀k∈ks,(0≤k.f0∧k.f0≤12)∧(0≤k.f1∧k.f1≤12)
 bars: ∀b∈bs,0≤b.f0∧b.f0<b.f1∧b.f1<(ks.length:Int)
theorem okF_facts {ks:List S90} {bs:List S104} (h:okF ks bs=true):OkF ks bs:=by
 unfold okF at h
 simp only[Bool.and_eq_true,decide_eq_true_eq]at h
 exact⟨h.1.1,h.1.2,okKs_all ks [] h.2.1,okBs_all ks bs [] h.2.2.1⟩
theorem rdKi {ks:List S90} {a:Int} (h0:0≤a) (h1:a<(ks.length:Int)):rd_T90 ks a∈ks:=by
 obtain⟨n,rfl⟩:=Int.eq_ofNat_of_zero_le h0
 have hn:n<ks.length:=by omega
 rw[show((n:Nat):Int)=(n:Int)from rfl,rdIKnot hn]
 exact List.getElem_mem hn
theorem rdBi {bs:List S104} {a:Int} (h0:0≤a) (h1:a<(bs.length:Int)):rd_T104 bs a∈bs:=by
 obtain⟨n,rfl⟩:=Int.eq_ofNat_of_zero_le h0
 have hn:n<bs.length:=by omega
 rw[show((n:Nat):Int)=(n:Int)from rfl,rdIBar hn]
 exact List.getElem_mem hn
def risB (hi:Int):Int→List Int→Bool
 |_,[]=>true
 |p,x :: l=>decide (0≤x∧x≤hi) && (decide (p<x) && risB hi x l)
theorem risB_all (hi:Int): ∀(l:List Int) (p:Int),risB hi p l=true→ ∀x∈l,0≤x∧x≤hi
 |[],_,_,x,hx=>by cases hx
 |y :: l,p,h,x,hx=>by
  simp only[risB,Bool.and_eq_true,decide_eq_true_eq]at h
  rcases List.mem_cons.1 hx with e|e
  ·rw[e];exact h.1
  ·exact risB_all hi l y h.2.2 x e
theorem risB_len (hi:Int): ∀(l:List Int) (p:Int),risB hi p l=true→p≤hi→p+(l.length:Int)≤hi
 |[],p,_,hp=>by simpa using hp
 |y :: l,p,h,hp=>by
  simp only[risB,Bool.and_eq_true,decide_eq_true_eq]at h
  have:=risB_len hi l y h.2.2 h.1.2
  rw[List.length_cons];omega
def barsB (bs:List S104) (l:List Int):Bool:=risB ((bs.length:Int) - 1) (-1) l
theorem barsB_len {bs:List S104} {l:List Int} (h:barsB bs l=true):l.length≤bs.length:=by
 have:=risB_len _ _ _ h (by omega);omega
theorem barsB_all {bs:List S104} {l:List Int} (h:barsB bs l=true): ∀x∈l,0≤x∧x<(bs.length:Int):=fun x hx=>by
 have:=risB_all _ _ _ h x hx;omega
theorem l00In_t (a b c:Int):spec_l00In.f a b c=some (decide (b≤a∧a≤c)):=by
 unfold spec_l00In.f;by_cases h:a≥b <;> simp[h]
theorem sRis (l:List Int) (hi:Int) (hl:l.length≤1048576): ∀(d i:Nat) (p:Int),i+d=l.length→(i=0→p= -1)→(0<i→p=rd l ((i:Int) - 1))→Ev (fun k=>spec_l00Rises.l0 k l 0 hi (i:Int)) (risB hi p (l.drop i))
 |0,i,p,hd,h0,h1=>by
  refine ev_succ ?_;simp only[spec_l00Rises.l0]
  refine ev_neg (by omega) (ev_some ?_)
  rw[show l.drop i= [] by simp;omega];rfl
 |d+1,i,p,hd,h0,h1=>by
  have hlt:i<l.length:=by omega
  have ih:=sRis l hi hl d (i+1) l[i] (by omega) (by omega) (fun _=>by rw[show((i+1:Nat):Int) - 1=(i:Int) by omega,rd_nat hlt])
  refine ev_succ ?_;simp only[spec_l00Rises.l0]
  rw[List.drop_eq_getElem_cons hlt]
  simp only[risB]
  rw[rd_nat hlt,w64s (by omega),w64 (x:=(i:Int) - 1) (by omega) (by omega)]
  refine ev_pos (by omega) (ev_pos (by omega) (ev_now (l00In_t _ _ _) (ev_if (fun g=>?_) (fun g=>ev_some ?_))))
  ·rw[g,Bool.true_and]
   have g:=of_decide_eq_true g
   refine ev_if (fun h=>?_) (fun h=>?_)
   ·have hp:=h1 (by omega)
    refine ev_pos (by omega) (ev_pos (by omega) ?_)
    rw[← hp]
    refine ev_if (fun q=>ev_some ?_) (fun q=>?_)
    ·rw[decide_eq_false (by omega),Bool.false_and]
    ·rw[decide_eq_true (by omega),Bool.true_and];exact ih
   ·have hp:=h0 (by omega)
    rw[hp,decide_eq_true (by omega),Bool.true_and];exact ih
  ·rw[Bool.eq_false_iff.2 g,Bool.false_and]
theorem iRis (l:List Int) (ks:List S90) (bs:List S104) (hb:bs.length≤8) (hl:l.length≤1048576): ∀(d i:Nat) (p:Int),i+d=l.length→(i=0→p= -1)→(0<i→p=rd l ((i:Int) - 1))→Ev (fun k=>impl_areBars.l0 k l l (l.length:Int) (i:Int) ks bs) (risB ((bs.length:Int) - 1) p (l.drop i))
 |0,i,p,hd,h0,h1=>by
  refine ev_succ ?_;simp only[impl_areBars.l0]
  refine ev_neg (by omega) (ev_some ?_)
  rw[show l.drop i= [] by simp;omega];rfl
 |d+1,i,p,hd,h0,h1=>by
  have hlt:i<l.length:=by omega
  have ih:=iRis l ks bs hb hl d (i+1) l[i] (by omega) (by omega) (fun _=>by rw[show((i+1:Nat):Int) - 1=(i:Int) by omega,rd_nat hlt])
  refine ev_succ ?_;simp only[impl_areBars.l0]
  rw[List.drop_eq_getElem_cons hlt]
  simp only[risB]
  rw[rd_nat hlt,w64s (by omega),w64 (x:=(i:Int) - 1) (by omega) (by omega),w64 (x:=(bs.length:Int) - 1) (by omega) (by omega)]
  refine ev_pos (by omega) (ev_pos (by omega) (ev_pos (by omega) (ev_now (within_eq _ _ _) (ev_if (fun g=>?_) (fun g=>ev_some ?_)))))
  ·rw[g,Bool.true_and]
   have g:=of_decide_eq_true g
   refine ev_if (fun h=>?_) (fun h=>?_)
   ·have hp:=h1 (by omega)
    refine ev_pos (by omega) (ev_pos (by omega) ?_)
    rw[← hp]
    refine ev_if (fun q=>ev_some ?_) (fun q=>?_)
    ·rw[decide_eq_false (by omega),Bool.false_and]
    ·rw[decide_eq_true (by omega),Bool.true_and];exact ih
   ·have hp:=h0 (by omega)
    rw[hp,decide_eq_true (by omega),Bool.true_and];exact ih
  ·rw[Bool.eq_false_iff.2 g,Bool.false_and]
theorem some_ev (ks:List S90) (bs:List S104) (l:List Int) (hb:bs.length≤8) (hl:l.length≤1048576):Ev (fun k=>spec_l09Some.f k ks bs l) (barsB bs l):=by
 simp only[spec_l09Some.f]
 rw[w64 (x:=(bs.length:Int) - 1) (by omega) (by omega)]
 have e:=sRis l ((bs.length:Int) - 1) hl l.length 0 (-1) (by omega) (fun _=>rfl) (by omega)
 exact Ev.bind (show Ev (fun k=>spec_l00Rises.f k l 0 ((bs.length:Int) - 1)) (barsB bs l)from e) (Ev.now _)
theorem areBars_ev (ks:List S90) (bs:List S104) (l:List Int) (hb:bs.length≤8) (hl:l.length≤1048576):Ev (fun k=>impl_areBars.f k ks bs l) (barsB bs l):=by
 simp only[impl_areBars.f]
 exact iRis l ks bs hb hl l.length 0 (-1) (by omega) (fun _=>rfl) (by omega)
theorem frU_free (ks:List S90): ∀v,v≤ks.length→(frU ks v).length=freeC (ks.take v)
 |0,_=>rfl
 |v+1,h=>by
  have hv:v<ks.length:=by omega
  rw[frU_succ,freeC_step hv,← frU_free ks v (by omega),List.length_append,rdIKnot hv]
  cases ks[v].f2 <;> rfl
theorem frI_free (ks:List S90):(frI ks).length=freeC ks:=by
 unfold frI;rw[frU_free ks _ (Nat.le_refl _),List.take_length]
theorem okF_free {ks:List S90} {bs:List S104} (h:okF ks bs=true):freeC ks≤3:=by
 unfold okF at h
 simp only[Bool.and_eq_true,decide_eq_true_eq]at h
 exact h.2.2.2
theorem tok {ks:List S90} {bs:List S104} {ld:List S76} {l:List Int} (h:okF ks bs=true) (hl:barsB bs l=true) (h1:ld.length=ks.length) (h2: ∀p∈ld,(-100≤p.f0∧p.f0≤100)∧(-100≤p.f1∧p.f1≤100)):TOk ks bs ld l:=by
 have f:=okF_facts h
 have b8:=f.b8
 have:=barsB_len hl
 exact⟨f.k8,by omega,by omega,by rw[frI_free];exact okF_free h,f.knots,f.bars,barsB_all hl,h1,h2⟩
theorem tok0 {ks:List S90} {bs:List S104} {l:List Int} (h:okF ks bs=true) (hl:barsB bs l=true):TOk ks bs (List.replicate ks.length ⟨0,0⟩) l:=
 tok h hl (by simp) (fun p hp=>by rw[(List.mem_replicate.1 hp).2];decide)
def convPull (x:S98):S76:=⟨x.f0,x.f1⟩
theorem rdLPull {xs:List S98} {i:Nat} (h:i<xs.length):rd_T98 xs (i:Int)=xs[i]:=by
 unfold rd_T98;simp[List.getD_eq_getElem?_getD,h]
theorem rdIPull {xs:List S76} {i:Nat} (h:i<xs.length):rd_T76 xs (i:Int)=xs[i]:=by
 unfold rd_T76;simp[List.getD_eq_getElem?_getD,h]
theorem toPullS_l0 (x0:List S98) (hn:x0.length≤1048576): ∀(d i:Nat) (x3:List S76),i+d=x0.length→x3.length=x0.length→x3.take i=(x0.map convPull).take i→
 Ev (fun k=>laws_toPullS.l0 k x0 x3 (i:Int)) (x0.map convPull)
 |0,i,x3,hd,hl,ht=>by
  refine ev_succ ?_
  simp only[laws_toPullS.l0]
  refine ev_neg (by omega) (ev_some ?_)
  rw[List.take_of_length_le (by omega),List.take_of_length_le (by simp;omega)]at ht;exact ht
 |d+1,i,x3,hd,hl,ht=>by
  refine ev_succ ?_
  simp only[laws_toPullS.l0]
  refine ev_pos (by omega) (ev_pos (by omega) (ev_now rfl (ev_pos (by omega) ?_)))
  rw[w64s (by omega),Int.toNat_natCast,rdLPull (by omega)]
  exact toPullS_l0 x0 hn d (i+1) _ (by omega) (by simpa using hl) (take_set _ _ _ _ (by omega) (by simp;omega) ht (by simp[convPull]))
theorem toPullS_ev (l:List S98) (hn:l.length≤1048576):Ev (fun k=>laws_toPullS.f k l) (l.map convPull):=by
 simp only[laws_toPullS.f]
 refine ev_pos (by omega) (ev_pos (by omega) ?_)
 exact toPullS_l0 l (by omega) l.length 0 _ (by omega) (by simp) (by simp)
def okLs (l:List S76):Bool:=l.all fun p=>decide (-100≤p.f0∧p.f0≤100) && decide (-100≤p.f1∧p.f1≤100)
theorem okLs_drop {l:List S76} {i:Nat} (h:i<l.length):okLs (l.drop i)=((decide (-100≤l[i].f0∧l[i].f0≤100) && decide (-100≤l[i].f1∧l[i].f1≤100)) && okLs (l.drop (i+1))):=by
 rw[List.drop_eq_getElem_cons h];rfl
theorem sLoads_l0 (l:List S76) (hn:l.length≤1048576): ∀(d i:Nat),i+d=l.length→Ev (fun k=>spec_l09Loads.l0 k l (i:Int)) (okLs (l.drop i))
 |0,i,hd=>by
  refine ev_succ ?_;simp only[spec_l09Loads.l0]
  refine ev_neg (by omega) (ev_some ?_)
  rw[show l.drop i= [] by simp;omega];rfl
 |d+1,i,hd=>by
  have hi:i<l.length:=by omega
  have ih:=sLoads_l0 l hn d (i+1) (by omega)
  rw[okLs_drop hi]
  refine ev_succ ?_;simp only[spec_l09Loads.l0]
  rw[rdIPull hi,w64s (by omega)]
  refine ev_pos (by omega) (ev_pos (by omega) (ev_now (l00In_eq _ _ _) (ev_if (fun g=>ev_now (l00In_eq _ _ _) (ev_if (fun g'=>?_) (fun g'=>ev_some ?_))) (fun g=>ev_some ?_))))
  ·rw[g,g'];simpa using ih
  ·rw[Bool.eq_false_iff.2 g'];simp
  ·rw[Bool.eq_false_iff.2 g];simp
theorem iLoads_l0 (l:List S76) (hn:l.length≤1048576): ∀(d i:Nat),i+d=l.length→Ev (fun k=>impl_ValidLoads.l0 k l (l.length:Int) (i:Int)) (okLs (l.drop i))
 |0,i,hd=>by
  refine ev_succ ?_;simp only[impl_ValidLoads.l0]
  refine ev_neg (by omega) (ev_some ?_)
  rw[show l.drop i= [] by simp;omega];rfl
 |d+1,i,hd=>by
  have hi:i<l.length:=by omega
  have ih:=iLoads_l0 l hn d (i+1) (by omega)
  rw[okLs_drop hi]
  refine ev_succ ?_;simp only[impl_ValidLoads.l0]
  rw[rdIPull hi,w64s (by omega)]
  refine ev_pos (by omega) (ev_pos (by omega) (ev_pos (by omega) (ev_now (within_eq _ _ _) (ev_if (fun g=>ev_now (within_eq _ _ _) (ev_if (fun g'=>?_) (fun g'=>ev_some ?_))) (fun g=>ev_some ?_)))))
  ·rw[g,g'];simpa using ih
  ·rw[Bool.eq_false_iff.2 g'];simp
  ·rw[Bool.eq_false_iff.2 g];simp
def okL9 (ks:List S90) (l:List S76):Bool:=decide (l.length=ks.length) && okLs l
theorem sLoads_ev (ks:List S90) (bs:List S104) (l:List S76) (hn:l.length≤1048576):Ev (fun k=>spec_l09Loads.f k ks bs l) (okL9 ks l):=by
 simp only[spec_l09Loads.f]
 unfold okL9
 refine ev_if (fun h=>?_) (fun h=>ev_some ?_)
 ·rw[decide_eq_true (show l.length=ks.length by omega)]
  exact sLoads_l0 l hn l.length 0 (by omega)
 ·rw[decide_eq_false (show¬l.length=ks.length by omega)];rfl
theorem iLoads_ev (ks:List S90) (bs:List S104) (l:List S76) (hn:l.length≤1048576):Ev (fun k=>impl_ValidLoads.f k ks bs l) (okF ks bs && okL9 ks l):=by
 have bad:Ev (fun k=>impl_ValidLoads.j0 k l true) false:=by
  refine ev_succ ?_;simp only[impl_ValidLoads.j0];exact ev_pos (by trivial) (Ev.now _)
 simp only[impl_ValidLoads.f]
 unfold okL9
 refine Ev.bind (validFrame_ev ks bs) (ev_if (fun h=>?_) (fun h=>?_))
 ·rw[h]
  by_cases g:l.length=ks.length
  ·rw[decide_eq_true g,show((l.length:Int) != (ks.length:Int))=false by simp[g]]
   refine ev_succ ?_;simp only[impl_ValidLoads.j0]
   exact ev_neg (by simp) (iLoads_l0 l hn l.length 0 (by omega))
  ·rw[decide_eq_false g,show((l.length:Int) != (ks.length:Int))=true by simp;omega]
   exact bad
 ·rw[Bool.eq_false_iff.2 h];exact bad
theorem spec_l00Gcd_l0: ∀(n:Nat) (a b:Int),b.natAbs<n→ ∃r:Int,Ev (fun k=>spec_l00Gcd.l0 k a b) r∧r.natAbs=Nat.gcd a.natAbs b.natAbs∧(0≤a→0≤b→0≤r)
 |0,a,b,h=>absurd h (Nat.not_lt_zero _)
 |n+1,a,b,h=>by
  by_cases hb:b=0
  ·subst hb
   refine⟨a,ev_succ ?_,by simp,fun h0 _=>h0⟩
   simp only[spec_l00Gcd.l0];exact ev_pos (by trivial) (Ev.now _)
  ·have hlt:(Int.tmod a b).natAbs<b.natAbs:=by rw[Int.natAbs_tmod];exact Nat.mod_lt _ (by omega)
   obtain⟨r,e,hg,hp⟩:=spec_l00Gcd_l0 n b (Int.tmod a b) (by omega)
   refine⟨r,ev_succ ?_,?_,fun h0 h1=>hp h1 (Int.tmod_nonneg _ h0)⟩
   ·simp only[spec_l00Gcd.l0];exact ev_neg hb e
   ·rw[hg,Int.natAbs_tmod,Nat.gcd_comm a.natAbs,Nat.gcd_rec b.natAbs a.natAbs,Nat.gcd_comm]
theorem spec_l00Gcd_l0' (a b:Int) (h0:0≤a) (h1:0≤b):Ev (fun k=>spec_l00Gcd.l0 k a b) (Int.gcd a b:Int):=by
 obtain⟨r,e,hg,hp⟩:=spec_l00Gcd_l0 (b.natAbs+1) a b (by omega)
 have:r=(Int.gcd a b:Int):=by have:=hp h0 h1;unfold Int.gcd;omega
 rw[← this];exact e
theorem size_t (x:Int) (h:x.natAbs≤9223372036854775807):spec_l00Size.f x=some (x.natAbs:Int):=by
 unfold spec_l00Size.f
 by_cases g:x<0
 ·rw[if_pos g,w64 (by omega) (by omega)];congr 1;omega
 ·rw[if_neg g];congr 1;omega
theorem low_l1 (ns:List Int) (gs den:Int) (hg:gs≠0) (hn:ns.length≤1000) (hd: ∀n∈ns,gs∣n) (hb: ∀n∈ns,n.natAbs≤4478976000): ∀(d i:Nat),i+d=ns.length→
 Ev (fun k=>spec_l09Lowest.l1 k ns gs (i:Int) ((ns.take i).map fun n=>n / gs) den) (ns.map fun n=>n / gs,den)
 |0,i,h=>by
  refine ev_succ ?_;simp only[spec_l09Lowest.l1]
  refine ev_neg (by omega) (ev_some ?_)
  rw[show i=ns.length by omega,List.take_length]
 |d+1,i,h=>by
  have hi:i<ns.length:=by omega
  have ih:=low_l1 ns gs den hg hn hd hb d (i+1) (by omega)
  have m:=List.getElem_mem hi
  have h1:=hb _ m
  have h2:(ns[i] / gs).natAbs≤ns[i].natAbs:=by
   obtain⟨q,hq⟩:=hd _ m
   rw[hq,Int.mul_ediv_cancel_left _ hg,Int.natAbs_mul]
   exact Nat.le_mul_of_pos_left _ (by omega)
  refine ev_succ ?_;simp only[spec_l09Lowest.l1]
  rw[rd_nat hi,w64s (i:=i) (by omega),Lib.tdiv_dvd (hd _ m),w64 (by omega) (by omega)]
  refine ev_pos (by omega) (ev_pos (by omega) (ev_neg hg (ev_pos (by simp;omega) ?_)))
  rw[List.take_add_one,List.getElem?_eq_getElem hi,List.map_append]at ih
  exact ih
theorem low_l0 (ns:List Int) (D:Int) (hn:ns.length≤1000) (hb: ∀n∈ns,n.natAbs≤4478976000) (G:Nat) {r:List Int×Int} (hG:Ev (fun k=>if D<0 then spec_l09Lowest.j1 k ns D (wrap64 (-(G:Int)))else spec_l09Lowest.j1 k ns D (G:Int)) r): ∀(d i g:Nat),i+d=ns.length→g≤268738560→Elim.gcdL g (ns.drop i)=G→
 0<g→Ev (fun k=>spec_l09Lowest.l0 k ns D (g:Int) (i:Int)) r
 |0,i,g,h,hg,e,hp=>by
  refine ev_succ ?_;simp only[spec_l09Lowest.l0]
  refine ev_neg (by omega) ?_
  rw[show ns.drop i= [] by simp;omega]at e
  have e:g=G:=e
  rw[e];exact hG
 |d+1,i,g,h,hg,e,hp=>by
  have hi:i<ns.length:=by omega
  have m:=List.getElem_mem hi
  have h1:=hb _ m
  rw[List.drop_eq_getElem_cons hi]at e
  have eg:=spec_l00Gcd_l0' (g:Int) (ns[i].natAbs:Int) (by omega) (by omega)
  rw[show Int.gcd (g:Int) (ns[i].natAbs:Int)=Nat.gcd g ns[i].natAbs by simp[Int.gcd]]at eg
  have p:=Nat.gcd_pos_of_pos_left ns[i].natAbs hp
  have l:=Nat.gcd_le_left ns[i].natAbs hp
  refine ev_succ ?_;simp only[spec_l09Lowest.l0]
  rw[rd_nat hi,w64s (i:=i) (by omega)]
  refine ev_pos (by omega) (ev_pos (by omega) (ev_now (size_t _ (by omega)) (Ev.bind (show Ev (fun k=>spec_l00Gcd.f k (g:Int) (ns[i].natAbs:Int)) _ by simpa only[spec_l00Gcd.f] using eg) ?_)))
  exact low_l0 ns D hn hb G hG d (i+1) (Nat.gcd g ns[i].natAbs) (by omega) (by omega) e p
theorem low_ev (ns:List Int) (D:Int) (hD:D≠0) (hDb:D.natAbs≤268738560) (hn:ns.length≤1000) (hb: ∀n∈ns,n.natAbs≤4478976000) {gs:Int} (hg:gs=if D<0 then -(Elim.gcdL D.natAbs ns:Int)else(Elim.gcdL D.natAbs ns:Int)) (h0:gs≠0) (h1:gs∣D) (h2: ∀n∈ns,gs∣n):
 Ev (fun k=>spec_l09Lowest.f k ns D) (ns.map fun n=>n / gs,D / gs):=by
 have hG:Elim.gcdL D.natAbs ns≤268738560:=Nat.le_trans (Nat.le_of_dvd (by omega) (Elim.gcdL_dvd0 ns D.natAbs)) hDb
 have h3:(D / gs).natAbs≤D.natAbs:=by
  obtain⟨q,hq⟩:=h1
  rw[hq,Int.mul_ediv_cancel_left _ h0,Int.natAbs_mul]
  exact Nat.le_mul_of_pos_left _ (by omega)
 have fin:Ev (fun k=>spec_l09Lowest.j1 k ns D gs) (ns.map fun n=>n / gs,D / gs):=by
  refine ev_succ ?_;simp only[spec_l09Lowest.j1]
  rw[Lib.tdiv_dvd h1,w64 (by omega) (by omega)]
  refine ev_neg h0 ?_
  simpa using low_l1 ns gs (D / gs) h0 hn h2 hb ns.length 0 (by omega)
 simp only[spec_l09Lowest.f]
 refine ev_now (size_t _ (by omega)) ?_
 refine low_l0 ns D hn hb (Elim.gcdL D.natAbs ns) ?_ ns.length 0 D.natAbs (by omega) hDb (by simp) (by omega)
 by_cases g:D<0
 ·refine ev_pos g ?_
  rw[if_pos g]at hg
  rw[w64 (by omega) (by omega),← hg];exact fin
 ·refine ev_neg g ?_
  rw[if_neg g]at hg
  rw[← hg];exact fin
theorem risB_lt (hi:Int): ∀(l:List Int) (p:Int),risB hi p l=true→ ∀(i:Nat) (h:i<l.length),p<l[i]∧ ∀(j:Nat) (g:j<i),l[j]<l[i]
 |[],_,_,i,h=>absurd h (Nat.not_lt_zero _)
 |x :: l,p,hr,i,h=>by
  simp only[risB,Bool.and_eq_true,decide_eq_true_eq]at hr
  cases i with
  |zero=>exact⟨hr.2.1,fun j g=>absurd g (Nat.not_lt_zero _)⟩
  |succ i=>
   have ih:=risB_lt hi l x hr.2.2 i (by simpa using h)
   refine⟨by have:=ih.1;simp only[List.getElem_cons_succ];omega,fun j g=>?_⟩
   cases j with
   |zero=>simpa using ih.1
   |succ j=>simpa using ih.2 j (by omega)
section
variable {nb:Nat} {bars:List Int} {X:Nat→Int}
theorem slv_get (hr: ∀x∈bars,0≤x∧x<(nb:Int)) (hd: ∀(i:Nat) (h:i<bars.length) (j:Nat) (g:j<i),bars[j]<bars[i]): ∀i,i≤bars.length→ ∀c,c<i→(slvL nb bars X i)[(rd bars (c:Int)).toNat]? =some (X c)
 |0,_,c,hc=>absurd hc (Nat.not_lt_zero _)
 |i+1,hi,c,hc=>by
  have h1:=hr _ (List.getElem_mem (show i<bars.length by omega))
  rw[slvL,rd_nat (show i<bars.length by omega),rd_nat (show c<bars.length by omega)]
  by_cases e:c=i
  ·subst e
   rw[List.getElem?_set_self (by rw[slvL_len];omega)]
  ·have h2:=hd i (by omega) c (by omega)
   have h3:=hr _ (List.getElem_mem (show c<bars.length by omega))
   rw[List.getElem?_set_ne (by omega)]
   have ih:=slv_get hr hd i (by omega) c (by omega)
   rw[rd_nat (show c<bars.length by omega)]at ih
   exact ih
theorem slv_mem: ∀i,∀n∈slvL nb bars X i,n=0∨ ∃c,c<i∧n=X c
 |0,n,h=>.inl (List.mem_replicate.1 h).2
 |i+1,n,h=>by
  rcases List.mem_or_eq_of_mem_set h with g|g
  ·rcases slv_mem i n g with e|⟨c,hc,e⟩
   ·exact .inl e
   ·exact .inr ⟨c,by omega,e⟩
  ·exact .inr ⟨i,by omega,g⟩
theorem slv_map {Y:Nat→Int} {gs:Int}: ∀i,(∀c,c<i→X c / gs=Y c)→(slvL nb bars X i).map (fun n=>n / gs)=slvI nb bars Y i
 |0,_=>by simp[slvL,slvI]
 |i+1,h=>by
  rw[slvL,slvI,List.map_set,slv_map i (fun c hc=>h c (by omega)),h i (by omega)]
end
theorem okLs_all: ∀ {l:List S76},okLs l=true→ ∀p∈l,(-100≤p.f0∧p.f0≤100)∧(-100≤p.f1∧p.f1≤100):=by
 intro l h p hp
 obtain⟨i,hi,e⟩:=List.getElem_of_mem hp
 have key: ∀(d i:Nat),okLs (l.drop i)=true→ ∀j,i≤j→(g:j<l.length)→j<i+d→(-100≤l[j].f0∧l[j].f0≤100)∧(-100≤l[j].f1∧l[j].f1≤100):=by
  intro d
  induction d with
  |zero=>intro i _ j h1 _ h2;omega
  |succ d ih=>
   intro i ho j h1 g h2
   have hi:i<l.length:=by omega
   rw[okLs_drop hi]at ho
   simp only[Bool.and_eq_true,decide_eq_true_eq]at ho
   by_cases e:i=j
   ·subst e;exact⟨ho.1.1,ho.1.2⟩
   ·exact ih (i+1) ho.2 j (by omega) g (by omega)
 rw[← e]
 exact key l.length 0 (by simpa using h) i (Nat.zero_le _) hi (by omega)
theorem solve_eq {ks:List S90} {bs:List S104} {ld:List S76} {l:List Int} (h:okF ks bs=true) (hl:barsB bs l=true) (h9:okL9 ks ld=true): ∃r:List Int×Int×Bool,r.1.length≤8∧Ev (fun k=>spec_l09Solve.f k ks bs ld l) r∧impl_solveBars.f ks bs ld l=some r:=by
 have h9:ld.length=ks.length∧okLs ld=true:=by unfold okL9 at h9;simpa using h9
 have t:=tok h hl h9.1 (okLs_all h9.2)
 have hF:=tblM_fit t
 have b8:=(okF_facts h).b8
 simp only[spec_l09Solve.f]
 unfold impl_solveBars.f
 simp only[if_pos t]
 generalize hs:Elim.El (2*(frI ks).length) (tblM ks bs ld l) l.length=s
 by_cases c1:s.t<l.length
 ·simp only[if_pos c1]
  exact⟨_,by simp,Ev.now _,rfl⟩
 ·simp only[if_neg c1]
  by_cases c2: ∀i,l.length≤i→i<2*(frI ks).length→s.M i l.length=0
  ·simp only[if_pos c2]
   have aA:=hF.d0 l.length (Nat.le_refl _)
   have hdB:=hF.dB l.length (Nat.le_refl _)
   have hlB:=hF.lB l.length
   have htn:=hF.tn l.length (Nat.le_refl _)
   rw[hs]at aA hdB hlB htn
   have hlen:=slvL_len bs.length l (fun i=>s.M i l.length) l.length
   have hris:risB ((bs.length:Int) - 1) (-1) l=true:=hl
   have hlow:=Elim.lowest aA (N:=fun c=>s.M c l.length) (m:=l.length) (ns:=slvL bs.length l (fun i=>s.M i l.length) l.length)
    (fun c hc=>List.mem_of_getElem? (slv_get (X:=fun i=>s.M i l.length) (barsB_all hl) (fun i hi j g=>(risB_lt _ l _ hris i hi).2 j g) l.length (Nat.le_refl _) c hc))
    (fun n hn=>slv_mem (X:=fun i=>s.M i l.length) l.length n hn) (Q:=fun c=>Elim.Qr s.M s.d c l.length) (fun c=>rfl) (gs:=_) rfl
   obtain⟨k1,k2,k3,k4,k5,k6⟩:=hlow
   have hb: ∀n∈slvL bs.length l (fun i=>s.M i l.length) l.length,n.natAbs≤4478976000:=fun n hn=>by
    rcases slv_mem (X:=fun i=>s.M i l.length) l.length n hn with e|⟨c,hc,e⟩
    ·rw[e];decide
    ·rw[e];exact hlB c l.length (Nat.le_refl _) (by omega) (Nat.le_refl _)
   have e:=low_ev (slvL bs.length l (fun i=>s.M i l.length) l.length) s.d aA hdB (by rw[hlen];omega) hb rfl k5 k3 k4
   refine⟨_,?_,Ev.bind e (Ev.now _),?_⟩
   ·rw[List.length_map,hlen];exact b8
   ·rw[k1,slv_map (X:=fun i=>s.M i l.length) l.length (fun c hc=>(k2 c hc).symm),k1]
  ·simp only[if_neg c2]
   exact⟨_,by simp,Ev.now _,rfl⟩
theorem solve_key (ks:List S90) (bs:List S104) (ld:List S76) (l:List Int) (hl:l.length≤1048576) (hld:ld.length≤1048576): ∃r:List Int×Int×Int,r.1.length≤8∧Ev (fun k=>spec_SolveBars.f k ks bs ld l) r∧Ev (fun k=>impl_SolveBars.f k ks bs ld l) r:=by
 have e1:=l09Ok_ev ks bs
 have e2:=iLoads_ev ks bs ld hld
 have e3:=sLoads_ev ks bs ld hld
 have bad:Ev (fun k=>spec_SolveBars.j0 k ld l true ks bs) ([],0,1):=by
  refine ev_succ ?_;simp only[spec_SolveBars.j0];exact ev_pos (by trivial) (Ev.now _)
 simp only[spec_SolveBars.f,impl_SolveBars.f]
 by_cases h:okF ks bs=true
 ·by_cases h9:okL9 ks ld=true
  ·rw[h,h9]at e2
   have b8:=(okF_facts h).b8
   have e4:=some_ev ks bs l b8 hl
   have e5:=areBars_ev ks bs l b8 hl
   have go: ∀r,Ev (fun k=>(spec_l09Some.f k ks bs l).bind fun aC=>(if aC=true then((spec_l09Solve.f k ks bs ld l).bind fun aA=>(if aA.2.2=true then(some (aA.1,aA.2.1,(0:Int)))else(some (([]:List Int),0,3))))else(some (([]:List Int),0,2)))) r→Ev (fun k=>(spec_l09Ok.f k ks bs).bind fun aB=>(if aB=true then((spec_l09Loads.f k ks bs ld).bind fun aD=>(spec_SolveBars.j0 k ld l (!aD) ks bs))else(spec_SolveBars.j0 k ld l true ks bs))) r:=fun r hr=>by
    refine Ev.bind e1 (ev_pos h (Ev.bind e3 ?_))
    rw[h9]
    refine ev_succ ?_;simp only[spec_SolveBars.j0]
    exact ev_neg (by simp) hr
   by_cases g:barsB bs l=true
   ·rw[g]at e4 e5
    obtain⟨⟨v,dn,b⟩,hv,s1,s2⟩:=solve_eq h g h9
    cases b with
    |true=>exact⟨(v,dn,0),hv,go _ (Ev.bind e4 (ev_pos rfl (Ev.bind s1 (ev_pos rfl (Ev.now _))))),Ev.bind e2 (ev_pos rfl (Ev.bind e5 (ev_pos rfl (ev_now s2 (ev_pos rfl (Ev.now _))))))⟩
    |false=>exact⟨([],0,3),by simp,go _ (Ev.bind e4 (ev_pos rfl (Ev.bind s1 (ev_neg (by simp) (Ev.now _))))),Ev.bind e2 (ev_pos rfl (Ev.bind e5 (ev_pos rfl (ev_now s2 (ev_neg (by simp) (Ev.now _))))))⟩
   ·exact⟨([],0,2),by simp,go _ (Ev.bind e4 (ev_neg g (Ev.now _))),Ev.bind e2 (ev_pos rfl (Ev.bind e5 (ev_neg g (Ev.now _))))⟩
  ·refine⟨([],0,1),by simp,Ev.bind e1 (ev_pos h (Ev.bind e3 ?_)),Ev.bind e2 (ev_neg (by rw[Bool.eq_false_iff.2 h9];simp) (Ev.now _))⟩
   rw[Bool.eq_false_iff.2 h9];exact bad
 ·exact⟨([],0,1),by simp,Ev.bind e1 (ev_neg h bad),Ev.bind e2 (ev_neg (by rw[Bool.eq_false_iff.2 h];simp) (Ev.now _))⟩
theorem rdEKnot {xs:List S90} {i:Nat} (h:i<xs.length):rd_T90 xs (i:Int)=xs[i]:=by
 unfold rd_T90;simp[List.getD_eq_getElem?_getD,h]
theorem eqKnot_self (x:S90):laws_eqKnot.f x.f0 x.f1 x.f2 x.f0 x.f1 x.f2=some true:=by
 simp[laws_eqKnot.f]
theorem eqKnotS_l0 (x0:List S90) (hn:x0.length≤1048576): ∀(d i:Nat),i+d=x0.length→Ev (fun k=>laws_eqKnotS.l0 k x0 x0 (i:Int)) true
 |0,i,hd=>by
  refine ev_succ ?_
  simp only[laws_eqKnotS.l0]
  exact ev_neg (by omega) (Ev.now _)
 |d+1,i,hd=>by
  refine ev_succ ?_
  simp only[laws_eqKnotS.l0]
  refine ev_pos (by omega) (ev_pos (by omega) (ev_pos (by omega) (ev_now (eqKnot_self _) (ev_pos (by trivial) ?_))))
  rw[w64s (by omega)]
  exact eqKnotS_l0 x0 hn d (i+1) (by omega)
theorem eqKnotS_self (l:List S90) (hn:l.length≤1048576):Ev (fun k=>laws_eqKnotS.f k l l) true:=by
 simp only[laws_eqKnotS.f]
 exact ev_pos (by trivial) (eqKnotS_l0 l hn l.length 0 (by omega))
theorem rdEBar {xs:List S104} {i:Nat} (h:i<xs.length):rd_T104 xs (i:Int)=xs[i]:=by
 unfold rd_T104;simp[List.getD_eq_getElem?_getD,h]
theorem eqBar_self (x:S104):laws_eqBar.f x.f0 x.f1 x.f2 x.f0 x.f1 x.f2=some true:=by
 simp[laws_eqBar.f]
theorem eqBarS_l0 (x0:List S104) (hn:x0.length≤1048576): ∀(d i:Nat),i+d=x0.length→Ev (fun k=>laws_eqBarS.l0 k x0 x0 (i:Int)) true
 |0,i,hd=>by
  refine ev_succ ?_
  simp only[laws_eqBarS.l0]
  exact ev_neg (by omega) (Ev.now _)
 |d+1,i,hd=>by
  refine ev_succ ?_
  simp only[laws_eqBarS.l0]
  refine ev_pos (by omega) (ev_pos (by omega) (ev_pos (by omega) (ev_now (eqBar_self _) (ev_pos (by trivial) ?_))))
  rw[w64s (by omega)]
  exact eqBarS_l0 x0 hn d (i+1) (by omega)
theorem eqBarS_self (l:List S104) (hn:l.length≤1048576):Ev (fun k=>laws_eqBarS.f k l l) true:=by
 simp only[laws_eqBarS.f]
 exact ev_pos (by trivial) (eqBarS_l0 l hn l.length 0 (by omega))
theorem szKnotS_eq (l:List S126) (n:Int) (hl:l.length≤maxLen) (h0:0≤n) (h1:n≤1048576):laws_szKnotS.f l n=some (if n - (l.length:Int)<0 then -1 else n - (l.length:Int)):=by
 unfold maxLen at hl
 unfold laws_szKnotS.f
 rw[w64 (x:=n - (l.length:Int)) (by omega) (by omega)]
 split <;> rfl
theorem szBarS_eq (l:List S128) (n:Int) (hl:l.length≤maxLen) (h0:0≤n) (h1:n≤1048576):laws_szBarS.f l n=some (if n - (l.length:Int)<0 then -1 else n - (l.length:Int)):=by
 unfold maxLen at hl
 unfold laws_szBarS.f
 rw[w64 (x:=n - (l.length:Int)) (by omega) (by omega)]
 split <;> rfl
theorem szF_eq (l0:List S126) (l1:List S128) (n:Int) (h0:l0.length≤maxLen) (h1:l1.length≤maxLen) (hn:0≤n) (hn':n≤1048576):
 ∃r:Int,laws_szFrame.f l0 l1 n=some r∧(¬r<0→l0.length≤1048576∧l1.length≤1048576∧r≤n):=by
 unfold laws_szFrame.f
 rw[szKnotS_eq l0 n h0 hn hn']
 simp only[Option.bind_some]
 by_cases g:n - (l0.length:Int)<0
 ·rw[if_pos g];exact⟨-1,rfl,fun h=>by omega⟩
 ·rw[if_neg g,if_neg g,szBarS_eq l1 _ h1 (by omega) (by omega)]
  simp only[Option.bind_some]
  by_cases g':n - (l0.length:Int) - (l1.length:Int)<0
  ·rw[if_pos g'];exact⟨-1,rfl,fun h=>by omega⟩
  ·rw[if_neg g',if_neg g'];exact⟨_,rfl,fun h=>by omega⟩
theorem toF_ev (l0:List S126) (l1:List S128) (h0:l0.length≤1048576) (h1:l1.length≤1048576):Ev (fun k=>laws_toFrame.f k l0 l1) (l0.map convKnot,l1.map convBar):=by
 simp only[laws_toFrame.f]
 exact Ev.bind (toKnotS_ev l0 h0) (Ev.bind (toBarS_ev l1 h1) (Ev.now _))
theorem eqF_self (ks:List S90) (bs:List S104) (h0:ks.length≤1048576) (h1:bs.length≤1048576):Ev (fun k=>laws_eqFrame.f k ks bs ks bs) true:=by
 simp only[laws_eqFrame.f]
 exact Ev.bind (eqKnotS_self _ h0) (ev_pos (by trivial) (Ev.bind (eqBarS_self _ h1) (ev_pos (by trivial) (Ev.now _))))
theorem markS3Knot_l0: ∀(d i:Nat) (x0:List S90) (s:Int),i+d=x0.length→x0.length≤1048576→0≤s→s+3*d<4611686018427387904→
 ∃l:List S90,Ev (fun k=>laws_markKnotS.l0 k x0 s (i:Int)) (s+3*d,l)
 |0,i,x0,s,hd,hl,h0,hn=>by
  refine⟨x0,?_⟩
  refine ev_succ ?_;simp only[laws_markKnotS.l0]
  exact ev_neg (by omega) (ev_some (by simp))
 |d+1,i,x0,s,hd,hl,h0,hn=>by
  have hi:i<x0.length:=by omega
  have w1:wrap64 (s+1)=s+1:=w64 (by omega) (by omega)
  have w2:wrap64 (s+1+1)=s+1+1:=w64 (by omega) (by omega)
  have w3:wrap64 (s+1+1+1)=s+1+1+1:=w64 (by omega) (by omega)
  obtain⟨y1,aA⟩: ∃y,y=x0.set i ⟨s,(rd_T90 x0 (i:Int)).f1,(rd_T90 x0 (i:Int)).f2⟩:=⟨_,rfl⟩
  obtain⟨y2,aC⟩: ∃y,y=y1.set i ⟨(rd_T90 y1 (i:Int)).f0,s+1,(rd_T90 y1 (i:Int)).f2⟩:=⟨_,rfl⟩
  obtain⟨y3,aB⟩: ∃y,y=y2.set i ⟨(rd_T90 y2 (i:Int)).f0,(rd_T90 y2 (i:Int)).f1,(Int.tmod (s+1+1) 3 == 0)⟩:=⟨_,rfl⟩
  have hlen:y3.length=x0.length:=by rw[aB,aC,aA];simp
  obtain⟨l,hl'⟩:=markS3Knot_l0 d (i+1) y3 (s+1+1+1) (by omega) (by omega) (by omega) (by omega)
  refine⟨l,?_⟩
  rw[show s+1+1+1+3*(d:Int)=s+3*((d+1:Nat):Int) by omega]at hl'
  refine ev_succ ?_;simp only[laws_markKnotS.l0,w1,w2,w3]
  rw[w64s (by omega),Int.toNat_natCast]
  refine ev_pos (by omega) (ev_pos (by omega) (ev_now (congrArg some aA.symm) (ev_now (congrArg some aC.symm) ?_)))
  rw[← aB]
  exact hl'
theorem markS3Knot_ev (x0:List S90) (s:Int) (hl:x0.length≤1048576) (h0:0≤s) (hn:s≤1073741824): ∃l:List S90,Ev (fun k=>laws_markKnotS.f k x0 s) (s+3*(x0.length:Int),l):=by
 simp only[laws_markKnotS.f]
 exact markS3Knot_l0 x0.length 0 x0 s (by omega) hl h0 (by omega)
theorem markS3Bar_l0: ∀(d i:Nat) (x0:List S104) (s:Int),i+d=x0.length→x0.length≤1048576→0≤s→s+3*d<4611686018427387904→
 ∃l:List S104,Ev (fun k=>laws_markBarS.l0 k x0 s (i:Int)) (s+3*d,l)
 |0,i,x0,s,hd,hl,h0,hn=>by
  refine⟨x0,?_⟩
  refine ev_succ ?_;simp only[laws_markBarS.l0]
  exact ev_neg (by omega) (ev_some (by simp))
 |d+1,i,x0,s,hd,hl,h0,hn=>by
  have hi:i<x0.length:=by omega
  have w1:wrap64 (s+1)=s+1:=w64 (by omega) (by omega)
  have w2:wrap64 (s+1+1)=s+1+1:=w64 (by omega) (by omega)
  have w3:wrap64 (s+1+1+1)=s+1+1+1:=w64 (by omega) (by omega)
  obtain⟨y1,aA⟩: ∃y,y=x0.set i ⟨s,(rd_T104 x0 (i:Int)).f1,(rd_T104 x0 (i:Int)).f2⟩:=⟨_,rfl⟩
  obtain⟨y2,aC⟩: ∃y,y=y1.set i ⟨(rd_T104 y1 (i:Int)).f0,s+1,(rd_T104 y1 (i:Int)).f2⟩:=⟨_,rfl⟩
  obtain⟨y3,aB⟩: ∃y,y=y2.set i ⟨(rd_T104 y2 (i:Int)).f0,(rd_T104 y2 (i:Int)).f1,(Int.tmod (s+1+1) 3 == 0)⟩:=⟨_,rfl⟩
  have hlen:y3.length=x0.length:=by rw[aB,aC,aA];simp
  obtain⟨l,hl'⟩:=markS3Bar_l0 d (i+1) y3 (s+1+1+1) (by omega) (by omega) (by omega) (by omega)
  refine⟨l,?_⟩
  rw[show s+1+1+1+3*(d:Int)=s+3*((d+1:Nat):Int) by omega]at hl'
  refine ev_succ ?_;simp only[laws_markBarS.l0,w1,w2,w3]
  rw[w64s (by omega),Int.toNat_natCast]
  refine ev_pos (by omega) (ev_pos (by omega) (ev_now (congrArg some aA.symm) (ev_now (congrArg some aC.symm) ?_)))
  rw[← aB]
  exact hl'
theorem markS3Bar_ev (x0:List S104) (s:Int) (hl:x0.length≤1048576) (h0:0≤s) (hn:s≤1073741824): ∃l:List S104,Ev (fun k=>laws_markBarS.f k x0 s) (s+3*(x0.length:Int),l):=by
 simp only[laws_markBarS.f]
 exact markS3Bar_l0 x0.length 0 x0 s (by omega) hl h0 (by omega)
theorem markF_ev (ks:List S90) (bs:List S104) (s:Int) (h0:ks.length≤1048576) (h1:bs.length≤1048576) (hs:0≤s) (hs':s≤1048576):
 ∃r:Int×List S90×List S104,Ev (fun k=>laws_markFrame.f k ks bs s) r∧s≤r.1∧r.1≤s+6291456:=by
 obtain⟨l,e1⟩:=markS3Knot_ev ks s h0 hs (by omega)
 obtain⟨m,e2⟩:=markS3Bar_ev bs (s+3*(ks.length:Int)) h1 (by omega) (by omega)
 refine⟨(s+3*(ks.length:Int)+3*(bs.length:Int),l,m),?_,?_,?_⟩
 ·simp only[laws_markFrame.f];exact Ev.bind e1 (Ev.bind e2 (Ev.now _))
 ·show s≤s+3*(ks.length:Int)+3*(bs.length:Int)
  omega
 ·show s+3*(ks.length:Int)+3*(bs.length:Int)≤s+6291456
  omega
theorem szPullS_eq (l:List S98) (n:Int) (hl:l.length≤maxLen) (h0:0≤n) (h1:n≤1048576):laws_szPullS.f l n=some (if n - (l.length:Int)<0 then -1 else n - (l.length:Int)):=by
 unfold maxLen at hl
 unfold laws_szPullS.f
 rw[w64 (x:=n - (l.length:Int)) (by omega) (by omega)]
 split <;> rfl
theorem rdEPull {xs:List S76} {i:Nat} (h:i<xs.length):rd_T76 xs (i:Int)=xs[i]:=by
 unfold rd_T76;simp[List.getD_eq_getElem?_getD,h]
theorem eqPull_self (x:S76):laws_eqPull.f x.f0 x.f1 x.f0 x.f1=some true:=by
 simp[laws_eqPull.f]
theorem eqPullS_l0 (x0:List S76) (hn:x0.length≤1048576): ∀(d i:Nat),i+d=x0.length→Ev (fun k=>laws_eqPullS.l0 k x0 x0 (i:Int)) true
 |0,i,hd=>by
  refine ev_succ ?_
  simp only[laws_eqPullS.l0]
  exact ev_neg (by omega) (Ev.now _)
 |d+1,i,hd=>by
  refine ev_succ ?_
  simp only[laws_eqPullS.l0]
  refine ev_pos (by omega) (ev_pos (by omega) (ev_pos (by omega) (ev_now (eqPull_self _) (ev_pos (by trivial) ?_))))
  rw[w64s (by omega)]
  exact eqPullS_l0 x0 hn d (i+1) (by omega)
theorem eqPullS_self (l:List S76) (hn:l.length≤1048576):Ev (fun k=>laws_eqPullS.f k l l) true:=by
 simp only[laws_eqPullS.f]
 exact ev_pos (by trivial) (eqPullS_l0 l hn l.length 0 (by omega))
theorem rdKPull {xs:List S76} {i:Nat} (h:i<xs.length):rd_T76 xs (i:Int)=xs[i]:=by
 unfold rd_T76;simp[List.getD_eq_getElem?_getD,h]
def mksPull (s:Int) (n:Nat):List S76:=(List.range n).map fun(j:Nat)=>⟨s+2*(j:Int),s+2*(j:Int)+1⟩
theorem mksPull_length (s:Int) (n:Nat):(mksPull s n).length=n:=by simp[mksPull]
theorem mksPull_get (s:Int) (n i:Nat) (h:i<(mksPull s n).length):(mksPull s n)[i]=⟨s+2*(i:Int),s+2*(i:Int)+1⟩:=by simp[mksPull]
theorem markPullS_l0 (s:Int) (h0:0≤s) (n:Nat) (hn:s+2*n<4611686018427387904): ∀(d i:Nat) (x0:List S76),i+d=n→x0.length=n→x0.take i=(mksPull s n).take i→
 Ev (fun k=>laws_markPullS.l0 k x0 (s+2*i) (i:Int)) (s+2*n,mksPull s n)
 |0,i,x0,hd,hl,ht=>by
  refine ev_succ ?_
  simp only[laws_markPullS.l0]
  refine ev_neg (by omega) (ev_some ?_)
  rw[List.take_of_length_le (by omega),List.take_of_length_le (by rw[mksPull_length];omega)]at ht
  rw[ht];congr 1;omega
 |d+1,i,x0,hd,hl,ht=>by
  refine ev_succ ?_
  simp only[laws_markPullS.l0]
  refine ev_pos (by omega) (ev_pos (by omega) (ev_now rfl ?_))
  rw[w64s (by omega),w64 (x:=s+2*(i:Int)+1) (by omega) (by omega),w64 (x:=s+2*(i:Int)+1+1) (by omega) (by omega),Int.toNat_natCast,rdKPull (xs:=x0.set i _) (by simp;omega)]
  have e:s+2*(i:Int)+1+1=s+2*((i+1:Nat):Int):=by omega
  rw[e,List.set_set,List.getElem_set_self]
  refine markPullS_l0 s h0 n hn d (i+1) _ (by omega) (by simpa using hl) (take_set _ _ _ _ (by omega) (by rw[mksPull_length];omega) ht ?_)
  rw[mksPull_get]
theorem markPullS_ev (l:List S76) (s:Int) (h0:0≤s) (hn:s+2*l.length<4611686018427387904):
 Ev (fun k=>laws_markPullS.f k l s) (s+2*l.length,mksPull s l.length):=by
 simp only[laws_markPullS.f]
 have:=markPullS_l0 s h0 l.length hn l.length 0 l (by omega) rfl (by simp)
 simpa using this
theorem eqInt64S_l0 (x0 x1:List Int) (hl:x0.length=x1.length) (hn:x0.length≤35184372088832): ∀(d i:Nat),i+d=x0.length→x0.take i=x1.take i→
 Ev (fun k=>laws_eqInt64S.l0 k x0 x1 (i:Int)) (decide (x0=x1))
 |0,i,hd,ht=>by
  refine ev_succ ?_
  simp only[laws_eqInt64S.l0]
  refine ev_neg (by omega) (ev_some ?_)
  rw[List.take_of_length_le (by omega),List.take_of_length_le (by omega)]at ht;simp[ht]
 |d+1,i,hd,ht=>by
  refine ev_succ ?_
  simp only[laws_eqInt64S.l0]
  refine ev_pos (by omega) (ev_pos (by omega) (ev_pos (by omega) (ev_if (fun h=>?_) (fun h=>ev_some ?_))))
  ·rw[w64s (by omega)]
   refine eqInt64S_l0 x0 x1 hl hn d (i+1) (by omega) ?_
   rw[rd_nat (by omega),rd_nat (by omega)]at h
   rw[List.take_succ_eq_append_getElem (by omega),List.take_succ_eq_append_getElem (by omega),ht,h]
  ·rw[rd_nat (by omega),rd_nat (by omega)]at h
   symm;rw[decide_eq_false_iff_not];rintro rfl;exact h rfl
theorem eqInt64S_ev (a b:List Int) (hn:a.length≤35184372088832):Ev (fun k=>laws_eqInt64S.f k a b) (decide (a=b)):=by
 simp only[laws_eqInt64S.f]
 refine ev_if (fun h=>?_) (fun h=>ev_some ?_)
 ·exact eqInt64S_l0 a b (by omega) hn a.length 0 (by omega) (by simp)
 ·symm;rw[decide_eq_false_iff_not];rintro rfl;exact h rfl
theorem eqInt64S_self (a:List Int) (hn:a.length≤35184372088832):Ev (fun k=>laws_eqInt64S.f k a a) true:=by
 simpa using eqInt64S_ev a a hn
theorem toInt64S_l0 (x0:List Int) (hn:x0.length≤35184372088832): ∀(d i:Nat) (x3:List Int),i+d=x0.length→x3.length=x0.length→x3.take i=x0.take i→
 Ev (fun k=>laws_toInt64S.l0 k x0 x3 (i:Int)) x0
 |0,i,x3,hd,hl,ht=>by
  refine ev_succ ?_
  simp only[laws_toInt64S.l0]
  refine ev_neg (by omega) (ev_some ?_)
  rw[List.take_of_length_le (by omega),List.take_of_length_le (by omega)]at ht;exact ht
 |d+1,i,x3,hd,hl,ht=>by
  refine ev_succ ?_
  simp only[laws_toInt64S.l0]
  refine ev_pos (by omega) (ev_pos (by omega) (ev_pos (by omega) ?_))
  rw[w64s (by omega),Int.toNat_natCast,rd_nat (by omega)]
  exact toInt64S_l0 x0 hn d (i+1) _ (by omega) (by simpa using hl) (take_set _ _ _ _ (by omega) (by omega) ht rfl)
theorem toInt64S_ev (l:List Int) (hn:l.length≤35184372088832):Ev (fun k=>laws_toInt64S.f k l) l:=by
 simp only[laws_toInt64S.f]
 refine ev_pos (by omega) (ev_pos (by omega) ?_)
 exact toInt64S_l0 l (by omega) l.length 0 _ (by omega) (by simp) (by simp)
theorem markInt64S_l0 (s:Int) (h0:0≤s) (n:Nat) (hn:s+n<9223372036854775807): ∀(d i:Nat) (x0:List Int),i+d=n→x0.length=n→x0.take i=(marks s n).take i→
 Ev (fun k=>laws_markInt64S.l0 k x0 (s+i) (i:Int)) (s+n,marks s n)
 |0,i,x0,hd,hl,ht=>by
  refine ev_succ ?_
  simp only[laws_markInt64S.l0]
  refine ev_neg (by omega) (ev_some ?_)
  rw[List.take_of_length_le (by omega),List.take_of_length_le (by rw[marks_length];omega)]at ht
  rw[ht];congr 1;omega
 |d+1,i,x0,hd,hl,ht=>by
  refine ev_succ ?_
  simp only[laws_markInt64S.l0]
  refine ev_pos (by omega) (ev_pos (by omega) ?_)
  rw[w64s (by omega),w64 (by omega) (by omega),Int.toNat_natCast]
  have e:s+(i:Int)+1=s+((i+1:Nat):Int):=by omega
  rw[e]
  refine markInt64S_l0 s h0 n hn d (i+1) _ (by omega) (by simpa using hl) (take_set _ _ _ _ (by omega) (by rw[marks_length];omega) ht ?_)
  rw[marks_get]
theorem markInt64S_ev (l:List Int) (s:Int) (h0:0≤s) (hn:s+l.length<9223372036854775807):
 Ev (fun k=>laws_markInt64S.f k l s) (s+l.length,marks s l.length):=by
 simp only[laws_markInt64S.f]
 have:=markInt64S_l0 s h0 l.length hn l.length 0 l (by omega) rfl (by simp)
 simpa using this
theorem heldInt64S_l0 (s:Int) (h0:0≤s) (n:Nat) (hn:s+n<9223372036854775807): ∀(d i:Nat),i+d=n→
 Ev (fun k=>laws_heldInt64S.l0 k (marks s n) (s+i) (i:Int)) (s+n)
 |0,i,hd=>by
  refine ev_succ ?_
  simp only[laws_heldInt64S.l0]
  refine ev_neg (by rw[marks_length];omega) (ev_some ?_)
  omega
 |d+1,i,hd=>by
  refine ev_succ ?_
  simp only[laws_heldInt64S.l0]
  refine ev_pos (by rw[marks_length];omega) (ev_pos (by omega) (ev_pos ?_ ?_))
  ·rw[rd_nat (by rw[marks_length];omega),marks_get]
  ·rw[w64s (by omega),w64 (by omega) (by omega)]
   have e:s+(i:Int)+1=s+((i+1:Nat):Int):=by omega
   rw[e]
   exact heldInt64S_l0 s h0 n hn d (i+1) (by omega)
theorem heldInt64S_ev (s:Int) (h0:0≤s) (n:Nat) (hn:s+n<9223372036854775807):
 Ev (fun k=>laws_heldInt64S.f k (marks s n) s) (s+n):=by
 simp only[laws_heldInt64S.f]
 have:=heldInt64S_l0 s h0 n hn n 0 (by omega)
 simpa using this
theorem eqDn_self (l:List Int) (d:Int) (hn:l.length≤1048576):Ev (fun k=>laws_eqDensities.f k l d l d) true:=by
 simp only[laws_eqDensities.f]
 exact Ev.bind (eqInt64S_self l (by omega)) (ev_pos (by trivial) (ev_pos (by trivial) (Ev.now _)))
theorem FnExactSolveBars:laws_FnExactSolveBars.Pure:=by
 intro l0 l1 l2 l3 h0 _ h1 _ h2 _ h3 _
 refine Ev.rounds ?_
 simp only[laws_FnExactSolveBars.f]
 refine ev_if (fun _=>Ev.now _) (fun hl=>?_)
 obtain⟨r,es,hr⟩:=szF_eq l0 l1 1048576 h0 h1 (by omega) (by omega)
 refine ev_now es (ev_if (fun _=>Ev.now _) (fun h=>?_))
 obtain⟨q0,q1,q2⟩:=hr h
 refine ev_now (szPullS_eq l2 r h2 (by omega) q2) (ev_if (fun _=>Ev.now _) (fun h'=>?_))
 have hm:l2.length≤1048576:=by
  by_cases g:r - (l2.length:Int)<0
  ·rw[if_pos g]at h';omega
  ·omega
 have t0:=toF_ev l0 l1 q0 q1
 have t1:=toPullS_ev l2 hm
 have t2:=toInt64S_ev l3 (by omega)
 have m0:(l0.map convKnot).length≤1048576:=by simpa using q0
 have m1:(l1.map convBar).length≤1048576:=by simpa using q1
 have m2:(l2.map convPull).length≤1048576:=by simpa using hm
 obtain⟨⟨v,dn,c⟩,hv,e1,e2⟩:=solve_key (l0.map convKnot) (l1.map convBar) (l2.map convPull) l3 (by omega) m2
 have hv:v.length≤8:=hv
 obtain⟨mk,e3,b1,b2⟩:=markF_ev (l0.map convKnot) (l1.map convBar) 1 m0 m1 (by omega) (by omega)
 have e4:=markPullS_ev (l2.map convPull) mk.1 (by omega) (by omega)
 have e5:=markInt64S_ev l3 (mk.1+2*((l2.map convPull).length:Int)) (by omega) (by omega)
 have ev:=eqDn_self v dn (by omega)
 have bf:(c != c)=false:=by simp
 have mv:=markInt64S_ev v 1 (by omega) (by omega)
 have hd:=heldInt64S_ev 1 (by omega) v.length (by omega)
 have hdD:Ev (fun k=>laws_heldDensities.f k (marks 1 v.length) dn 1) (1+(v.length:Int)):=by
  simp only[laws_heldDensities.f];exact Ev.bind hd (ev_neg (by omega) (Ev.now _))
 have mvD:Ev (fun k=>laws_markDensities.f k v dn 1) (1+(v.length:Int),marks 1 v.length):=by
  simp only[laws_markDensities.f];exact Ev.bind mv (Ev.now _)
 have j2:Ev (fun k=>laws_FnExactSolveBars.j2 k (1+(v.length:Int)) false (marks 1 v.length) dn) true:=by
  refine ev_succ ?_;simp only[laws_FnExactSolveBars.j2]
  exact ev_neg (by simp) (Ev.bind hdD (ev_neg (by omega) (ev_pos rfl (Ev.now _))))
 have j1:Ev (fun k=>laws_FnExactSolveBars.j1 k l2 l3 c false l0 l1 v dn v dn) true:=by
  refine ev_succ ?_;simp only[laws_FnExactSolveBars.j1]
  refine ev_neg (by simp) (Ev.bind mvD (Ev.bind hdD (ev_neg (by omega) (ev_pos rfl (Ev.bind t0 (Ev.bind t1 (Ev.bind t2 (Ev.bind e2 (Ev.bind ev (ev_pos (by trivial) ?_))))))))))
  rw[bf];exact j2
 refine Ev.bind t0 (Ev.bind t1 (Ev.bind t2 (Ev.bind e1 (Ev.bind t0 (Ev.bind t1 (Ev.bind t2 (Ev.bind e2 (Ev.bind ev (ev_pos (by trivial) ?_)))))))))
 rw[bf]
 refine ev_succ ?_;simp only[laws_FnExactSolveBars.j0]
 refine ev_neg (by simp) (Ev.bind t0 (Ev.bind (eqF_self _ _ m0 m1) (ev_pos (by trivial) (Ev.bind t1 (Ev.bind (eqPullS_self _ m2) (ev_pos (by trivial) (Ev.bind t2 (Ev.bind (eqInt64S_self l3 (by omega)) (ev_pos (by trivial) (Ev.bind e3 (Ev.bind e4 (Ev.bind e5 (ev_neg ?_ (Ev.bind ev (ev_pos (by trivial) ?_)))))))))))))))
 ·show¬_<(0:Int)
  omega
 ·rw[bf];exact j1
end Go.Proofs.Ytebbdadpgapobaa.PureFnExactSolveBars
namespace Go.Proofs.Ytebbdadpgapobaa.Pure
open Go.Proofs.Ytebbdadpgapobaa.HEl
theorem FnExactSolveBars:laws_FnExactSolveBars.Pure:=PureFnExactSolveBars.FnExactSolveBars
end Go.Proofs.Ytebbdadpgapobaa.Pure
