/- What is read as data at a type is a value of the kind that stands for the type: whole numbers, bools, texts, slices and structs of them. No condition. -/
import Derived.Test.YtebbdadpgapobaaLib
import Derived.ProofKit
import Derived.ChangeSame
import Derived.Deep.Slices
import Derived.Deep.Strs
import Derived.Deep.Fields
namespace Go.Proofs.Ytebbdadpgapobaa.Lib
open Go.RowKit Go.ChangeShapes Go.WideShapes Go.ChangeAt Go.Deep Go.Proofs.YtebbdadpgapobaaW.PrintWords
def Opens {α:Type} (P:Program) (t:TypeId) (d:Kd α) (Q:α→Prop):Prop:=
 ∀(H:Type) (enc:TypeId×Value→H) (w:World) (base:Nat) (spare:Nat→Bool) (held:Bool) (n:Nat) (cs:List Value) (x:DataW H×List MemPlace),
  DataW.trod enc P w base spare held n t cs=some x→ ∃a:α,d.K w a cs∧Q a
theorem Opens.int {P:Program} {t:TypeId} {k:IntKind} (ht:P.underlying t=some (.int k)):Opens P t (Kd.int k) (fun n=>(Lit.int k n).wf=true):=by
 intro H enc w base spare held n cs x h
 obtain⟨a,e,_,wa⟩:=DataW.trod_int ht h
 exact⟨a,e,wa⟩
theorem Opens.bool {P:Program} {t:TypeId} (ht:P.underlying t=some .bool):Opens P t Kd.bool (fun _=>True):=by
 intro H enc w base spare held n cs x h
 obtain⟨a,e,_⟩:=DataW.trod_bool ht h
 exact⟨a,e,trivial⟩
theorem Opens.str {P:Program} {t:TypeId} (ht:P.underlying t=some .string):Opens P t Kd.string (fun s=>s.size≤maxLen):=by
 intro H enc w base spare held n cs x h
 obtain⟨a,e,_,ha⟩:=DataW.trod_string ht h
 exact⟨a,e,ha⟩
theorem Opens.slice {α:Type} {P:Program} {t e:TypeId} {d:Kd α} {Q:α→Prop} (ht:P.underlying t=some (.slice e)) (hc:P.cellsOf e=d.sz) (h:Opens P e d Q):
 Opens P t (Kd.slice e d) (fun l=>l.length≤maxLen∧ ∀x∈l,Q x):=by
 intro H enc w base spare held n cs x hx
 rcases open_slice ht hx with ⟨rfl,_⟩|⟨a,len,cap,m,q,D,Pl,rfl,hb,hl,hm,hmm,_,hel⟩
 ·exact⟨[],⟨none,0,rfl,Nat.le_refl _,Kd.C_nil d w⟩,by simp,by simp⟩
 ·have hlm:len≤m:=by rw[hmm];split <;> omega
  have key: ∀i,i<len→ ∃y:α,(∃c,c.length=d.sz∧d.K w y c∧ ∀j u,c[j]? =some u→w.cell? (a.add (i*d.sz+j))=some u)∧Q y:=by
   intro i hi
   obtain⟨c,h1,h2⟩:=hel i (by omega)
   obtain⟨y,hk,hq⟩:=h H enc w base spare held q c _ h2
   obtain⟨_,hlen,hcell⟩:=World.cells?_some h1
   rw[hc]at hlen hcell
   refine⟨y,⟨c,hlen,hk,fun j u hu=>?_⟩,hq⟩
   have hj:j<d.sz:=by rw[← hlen];exact(List.getElem?_eq_some_iff.1 hu).1
   have:=hcell j hj
   rw[hu]at this
   rw[← this]
   congr 1
   simp only[Addr.add]
   by_cases hz:i*d.sz=0
   ·rw[hz];simp
   ·by_cases hj0:j=0
    ·subst hj0;simp
    ·rw[if_neg hz,if_neg hj0,if_neg (by omega)];simp[Nat.add_assoc]
  by_cases h0:len=0
  ·subst h0
   exact⟨[],⟨some a,cap,rfl,Nat.zero_le _,by simp,by simp,fun hn=>absurd hn (Nat.lt_irrefl 0)⟩,by simp,by simp⟩
  ·obtain⟨y0,_⟩:=key 0 (by omega)
   have ch: ∀i,∃y:α,i<len→(∃c,c.length=d.sz∧d.K w y c∧ ∀j u,c[j]? =some u→w.cell? (a.add (i*d.sz+j))=some u)∧Q y:=by
    intro i
    by_cases hi:i<len
    ·obtain⟨y,hy⟩:=key i hi;exact⟨y,fun _=>hy⟩
    ·exact⟨y0,fun h'=>absurd h' hi⟩
   obtain⟨f,hf⟩:=Classical.axiomOfChoice ch
   have hlen:((List.range len).map f).length=len:=by simp
   have hM:len≤maxLen:=by omega
   refine⟨(List.range len).map f,⟨some a,cap,by rw[hlen],by rw[hlen];exact hl,rfl,by rw[hlen];unfold maxLen at hM;omega,fun _=>⟨a,rfl,fun j p hp=>?_⟩⟩,by rw[hlen];exact hM,fun x hx=>?_⟩
   ·rw[List.getElem?_map]at hp
    obtain⟨i,hi,rfl⟩:=Option.map_eq_some_iff.1 hp
    obtain⟨hj,e⟩:=List.getElem?_eq_some_iff.1 hi
    simp at e hj
    subst e
    exact(hf j hj).1
   ·obtain⟨i,hi,rfl⟩:=List.mem_map.1 hx
    exact(hf i (List.mem_range.1 hi)).2
theorem Opens.iso {α β:Type} {P:Program} {t:TypeId} {d:Kd α} {Q:α→Prop} (f:β→α) (g:α→β) (hfg: ∀a,f (g a)=a) (h:Opens P t d Q):
 Opens P t (Kd.iso d f) (fun x=>Q (f x)):=by
 intro H enc w base spare held n cs x hx
 obtain⟨a,hk,hq⟩:=h H enc w base spare held n cs x hx
 exact⟨g a,by show d.K w (f (g a)) cs;rw[hfg];exact hk,by show Q (f (g a));rw[hfg];exact hq⟩
theorem Opens.struct2 {α β:Type} {P:Program} {t:TypeId} {f0 f1:Field} {d0:Kd α} {d1:Kd β} {Q0:α→Prop} {Q1:β→Prop}
 (ht:P.underlying t=some (.struct #[f0,f1])) (hone:oneCellFields P #[f0,f1]=true) (hC:P.cellsOf t=2) (h0:Opens P f0.type d0 Q0) (h1:Opens P f1.type d1 Q1):
 Opens P t (Kd.pair d0 d1) (fun x=>Q0 x.1∧Q1 x.2):=by
 intro H enc w base spare held n cs x hx
 obtain⟨y0,y1,m,_,hl,g0,g1⟩:=trod_struct2 ht hx
 obtain⟨o0,k0⟩:=hone_of hone 0 f0 rfl
 obtain⟨o1,k1⟩:=hone_of hone 1 f1 rfl
 rw[o0,k0]at g0
 rw[o1,k1]at g1
 rw[hC]at hl
 match cs,hl with
 |[c0,c1],_=>
  obtain⟨a0,p0,q0⟩:=h0 H enc w base spare held m _ _ g0
  obtain⟨a1,p1,q1⟩:=h1 H enc w base spare held m _ _ g1
  exact⟨(a0,a1),⟨[c0],[c1],rfl,by simpa using p0,by simpa using p1⟩,q0,q1⟩
theorem Opens.struct3 {α β γ:Type} {P:Program} {t:TypeId} {f0 f1 f2:Field} {d0:Kd α} {d1:Kd β} {d2:Kd γ} {Q0:α→Prop} {Q1:β→Prop} {Q2:γ→Prop}
 (ht:P.underlying t=some (.struct #[f0,f1,f2])) (hone:oneCellFields P #[f0,f1,f2]=true) (hC:P.cellsOf t=3) (h0:Opens P f0.type d0 Q0) (h1:Opens P f1.type d1 Q1) (h2:Opens P f2.type d2 Q2):
 Opens P t (Kd.pair d0 (Kd.pair d1 d2)) (fun x=>Q0 x.1∧Q1 x.2.1∧Q2 x.2.2):=by
 intro H enc w base spare held n cs x hx
 obtain⟨y0,y1,y2,m,_,hl,g0,g1,g2⟩:=trod_struct3 ht hx
 obtain⟨o0,k0⟩:=hone_of hone 0 f0 rfl
 obtain⟨o1,k1⟩:=hone_of hone 1 f1 rfl
 obtain⟨o2,k2⟩:=hone_of hone 2 f2 rfl
 rw[o0,k0]at g0
 rw[o1,k1]at g1
 rw[o2,k2]at g2
 rw[hC]at hl
 match cs,hl with
 |[c0,c1,c2],_=>
  obtain⟨a0,p0,q0⟩:=h0 H enc w base spare held m _ _ g0
  obtain⟨a1,p1,q1⟩:=h1 H enc w base spare held m _ _ g1
  obtain⟨a2,p2,q2⟩:=h2 H enc w base spare held m _ _ g2
  exact⟨(a0,a1,a2),⟨[c0],[c1,c2],rfl,by simpa using p0,[c1],[c2],rfl,by simpa using p1,by simpa using p2⟩,q0,q1,q2⟩
theorem Opens.get {α:Type} {P:Program} {t:TypeId} {d:Kd α} {Q:α→Prop} (h:Opens P t d Q) {H:Type} {enc:TypeId×Value→H} {w:World} {base:Nat} {spare:Nat→Bool} {held:Bool} {v:Value} {x:DataW H} {ps:List MemPlace}
 (hT:DataW.Trod enc P w base spare held t v x ps): ∃a:α,d.K w a v.cells.toList∧Q a:=by
 obtain⟨n,hn⟩:=hT
 exact h H enc w base spare held n _ _ hn
theorem trod_places {P:Program} {t:TypeId} {H:Type} {enc:TypeId×Value→H} {w:World} {base:Nat} {spare:Nat→Bool} {held:Bool} {v:Value} {x:DataW H} {ps:List MemPlace}
 (hT:DataW.Trod enc P w base spare held t v x ps): ∀q∈ps,q.block<w.heap.size:=by
 obtain⟨n,hn⟩:=hT
 exact DataW.trod_lt n _ _ _ hn
theorem agg_of {v:Value} {l:List Value} (h:(∃cs,v= .agg cs)∧v.cells.toList=l):v= .agg l.toArray:=by
 obtain⟨⟨cs,rfl⟩,h⟩:=h
 have:(Value.agg cs).cells=cs:=rfl
 rw[this]at h
 rw[← h]
end Go.Proofs.Ytebbdadpgapobaa.Lib
