/- The program's tables of fractions in memory. -/
import Derived.Test.YtebbdadpgapobaaProg
import Derived.Below
import Derived.Deep.Draws
import Derived.Deep.AppendLies
import Derived.Maps.AppendAt
import Derived.OwnWalk
import Derived.Laws.BytesArg
import Derived.Laws.MakeOwn
import Derived.Laws.OwnMore
import Derived.Deep.OwnRows
import Derived.Tactics
import Derived.Lib.ConvBytes
import Derived.Laws.Slices
import Derived.WalkKit
import Derived.KernelRfl
import Derived.RowKit3
import Derived.Deep.LoopGhost
import Derived.Deep.QuietTactic
import Derived.BigQuiet
import Derived.WideLaws
import Derived.Deep.DeepCutAuto
import Derived.Deep.CutBlock
import Derived.Deep.RegionHeld3
import Derived.Laws.Rows
import Derived.Lib.AppendStr
import Derived.ArgAppend
import Derived.Laws.IdiomCopy
import Derived.OrdersHeld
import Derived.Laws.BitsLemmas
import Derived.RowKit
import Derived.Test.YtebbdadpgapobaaVWords
import Derived.Test.YtebbdadpgapobaaVLast
import Derived.Test.YtebbdadpgapobaaVTab
import Derived.Test.YtebbdadpgapobaaVFour
import Derived.Test.YtebbdadpgapobaaVQPut
import Derived.Test.YtebbdadpgapobaaVApart
import Derived.Test.YtebbdadpgapobaaVArr
import Derived.Test.YtebbdadpgapobaaVZeros
import Derived.Test.YtebbdadpgapobaaVFoot
import Derived.Test.YtebbdadpgapobaaVKept
import Derived.Test.YtebbdadpgapobaaVShare
import Derived.Test.YtebbdadpgapobaaVN
import Derived.Test.YtebbdadpgapobaaVFootNe
import Derived.Test.YtebbdadpgapobaaVAt
import Derived.Test.YtebbdadpgapobaaVEqStruct
import Derived.Test.YtebbdadpgapobaaVRepsOne
import Derived.Test.YtebbdadpgapobaaVInv
import Derived.Test.YtebbdadpgapobaaVInvWords
import Derived.Test.YtebbdadpgapobaaVGuard
import Derived.Test.YtebbdadpgapobaaVNEv
import Derived.Test.YtebbdadpgapobaaVMore
import Derived.Test.YtebbdadpgapobaaLibFrac
import Derived.Test.YtebbdadpgapobaaRed
namespace Go.Proofs.Ytebbdadpgapobaa.Fra
open Go.RowKit Go.Proofs.YtebbdadpgapobaaW.PrintWords Go.Proofs.YtebbdadpgapobaaW.PrintLast Go.Proofs.YtebbdadpgapobaaW.PrintMore
attribute [local go_sem] max2_int min2_int max_two min_two max_three min_three max_four min_four
open Go.Proofs.Ytebbdadpgapobaa.Red
set_option linter.unusedVariables false
set_option linter.unusedSimpArgs false
def FT (Q:Nat→Nat→Rat) (i j:Nat):Int:=if j % 2=0 then(Q i (j / 2)).num else((Q i (j / 2)).den:Int)
theorem FT_num (Q:Nat→Nat→Rat) (i j:Nat):FT Q i (2*j)=(Q i j).num:=by unfold FT;rw[if_pos (by omega),show 2*j / 2=j by omega]
theorem FT_den (Q:Nat→Nat→Rat) (i j:Nat):FT Q i (2*j+1)=((Q i j).den:Int):=by unfold FT;rw[if_neg (by omega),show(2*j+1) / 2=j by omega]
theorem FT_cong {Q R:Nat→Nat→Rat} {n m:Nat} (h: ∀i j,i<n→j<m→Q i j=R i j): ∀i j,i<n→j<2*m→FT Q i j=FT R i j:=by
 intro i j hi hj;unfold FT;rw[h i (j / 2) hi (by omega)]
theorem row_blk2 {e base n c:Nat} {ok:Nat→Prop} {W:World} {A:Option Addr} {xs:List (List Value)} (h:(Kd.raw 2).R e W base ok (.slice A n c) xs) (hp:0<xs.length):
 ∃g cs,A=some ⟨g,0,none⟩∧n=xs.length∧base≤g∧W.heap[g]? =some (.cells cs e (0,0))∧ ∀(j:Nat) u v,xs[j]? =some [u,v]→cs[2*j]? =some u∧cs[2*j+1]? =some v:=by
 obtain⟨g,cap,hv,hb,_,cs,hc⟩:=Kd.R_form h hp
 injection hv with h1 h2 h3
 subst h1 h2 h3
 refine⟨g,cs,rfl,rfl,hb,hc,fun j u v hj=>?_⟩
 have hlt:j<xs.length:=(List.getElem?_eq_some_iff.1 hj).1
 obtain⟨ad,c,ha,hcl,hK,hcc⟩:=Kd.C_get (Kd.R_reads' h).2.2 ([]:List Value) (j:Int) (by omega) (by omega)
 injection ha with ha
 subst ha
 have e:xs.getD (j:Int).toNat []= [u,v]:=by rw[Int.toNat_natCast,List.getD_eq_getElem?_getD,hj];rfl
 rw[e]at hK
 have aF:c= [u,v]:=hK.1
 have ad_: ∀q,(⟨g,0,none⟩:Addr).add q=⟨g,q,none⟩:=by
  intro q
  unfold Addr.add
  by_cases h0:q=0
  ·rw[if_pos h0,h0]
  ·rw[if_neg h0];simp
 have h3:=hcc 0 u (by rw[aF];rfl)
 have h4:=hcc 1 v (by rw[aF];rfl)
 rw[ad_,blk_cell hc,Int.toNat_natCast,show(Kd.raw 2).sz=2 from rfl,Nat.mul_comm j 2]at h3 h4
 exact⟨h3,h4⟩
open Go.Proofs.Ytebbdadpgapobaa.Elim in
structure TJ (w0:World) (n ml:Nat) (vA:Value) (b cc:Nat→Nat) (X:Nat→Nat→Int) (W:World):Prop where
 hd:Kd.R (Kd.raw 1) 140 W w0.heap.size (fun _=>True) vA ((List.range n).map fun i=>[.slice (some ⟨b i,0,none⟩) ml (cc i)])
 rw: ∀i,i<n→ ∃cs,W.heap[b i]? =some (.cells cs 142 (0,0))∧ ∀j,j<2*ml→cs[j]? =some (.int .i64 (X i j))
 inj: ∀i j,i<n→j<n→b i=b j→i=j
 bb: ∀i,i<n→w0.heap.size≤b i
 bw:Below w0.heap.size w0 W
namespace TJ
section
open Go.Proofs.Ytebbdadpgapobaa.Elim
variable {w0 W W1:World} {n ml:Nat} {vA:Value} {b cc:Nat→Nat} {X:Nat→Nat→Int}
protected theorem below (h:TJ w0 n ml vA b cc X W) (hb:Below W.heap.size W W1):TJ w0 n ml vA b cc X W1:=
 ⟨Kd.R_below h.hd hb,fun i hi=>by obtain⟨cs,h1,h2⟩:=h.rw i hi;exact⟨cs,blk_below h1 hb,h2⟩,h.inj,h.bb,h.bw.trans (hb.mono h.bw.size)⟩
protected theorem drewN (h:TJ w0 n ml vA b cc X W) (k:Nat):TJ w0 n ml vA b cc X (W.drewN k):=h.below (pw_below_drewN (Below.refl _ _) k)
protected theorem drew (h:TJ w0 n ml vA b cc X W):TJ w0 n ml vA b cc X W.drew:=h.below (below_drew (Below.refl _ _))
protected theorem alloc (h:TJ w0 n ml vA b cc X W) (o:Obj):TJ w0 n ml vA b cc X (W.alloc o):=h.below (below_alloc (Below.refl _ _) o)
protected theorem rows_lt (h:TJ w0 n ml vA b cc X W): ∀i,i<n→b i<W.heap.size:=fun i hi=>by obtain⟨cs,h1,_⟩:=h.rw i hi;exact blk_lt h1
protected theorem grown (h:TJ w0 n ml vA b cc X W) {vx:Value} {xs:List (List Value)} {ok:Nat→Prop} (hx:Kd.R (Kd.raw 2) 142 W w0.heap.size ok vx xs) (hap: ∀k,vx.ownBlock=some k→ ∀i,i<n→b i≠k)
 (hg:W.grownBy W1 vx.ownBlock) (hb:Below w0.heap.size w0 W1):TJ w0 n ml vA b cc X W1:=
 ⟨Kd.R_over' h.hd (Kd.R_typed hx) (by simp[Kd.raw]) hg,fun i hi=>by obtain⟨cs,h1,h2⟩:=h.rw i hi;exact⟨cs,blk_grown h1 hg (fun e=>hap (b i) e.symm i hi rfl),h2⟩,h.inj,h.bb,hb⟩
protected theorem push (h:TJ w0 n ml vA b cc X W) {A1 A2:Option Addr} {n1 c1 n2 c2:Nat} {xs ys:List (List Value)} {aO aT:Nat→Prop} (hx:Kd.R (Kd.raw 2) 142 W w0.heap.size aO (.slice A1 n1 c1) xs) (hy:Kd.R (Kd.raw 2) 142 W w0.heap.size aT (.slice A2 n2 c2) ys)
 (hlx:xs.length=ml) (hly:ys.length=ml) (h0:0<ml)
 (hax: ∀k,(Value.slice A1 n1 c1).ownBlock=some k→(Value.slice A2 n2 c2).ownBlock≠some k∧ ∀i,i<n→b i≠k) (hay: ∀k,(Value.slice A2 n2 c2).ownBlock=some k→ ∀i,i<n→b i≠k)
 {x y:Nat→Int} (ex: ∀j,j<ml→xs[j]? =some [.int .i64 (x (2*j)),.int .i64 (x (2*j+1))]) (ey: ∀j,j<ml→ys[j]? =some [.int .i64 (y (2*j)),.int .i64 (y (2*j+1))])
 {vB:Value} (ho:Kd.R (Kd.raw 1) 140 W1 w0.heap.size (fun _=>True) vB (((List.range n).map fun i=>[.slice (some ⟨b i,0,none⟩) ml (cc i)]) ++ [[.slice A1 n1 c1],[.slice A2 n2 c2]]))
 (hb:Below w0.heap.size w0 W1) (hg:W.grownBy W1 vA.ownBlock):
 ∃b1 b2,TJ w0 (n+1+1) ml vB (upd (upd b n b1) (n+1) b2) (upd (upd cc n c1) (n+1) c2) (upd (upd X n x) (n+1) y) W1:=by
 obtain⟨b1,aR,rfl,rfl,aS,aJ,aG⟩:=row_blk2 hx (by omega)
 obtain⟨b2,aP,rfl,rfl,aN,aL,aH⟩:=row_blk2 hy (by omega)
 have aI: ∀ {k:Nat} {cs:Array Value},W.heap[k]? =some (.cells cs 142 (0,0))→some k≠vA.ownBlock:=fun hk e=>Kd.R_ne h.hd hk (by decide) e
 have aM: ∀i,i<n→b i≠b1:=(hax b1 rfl).2
 have aK: ∀i,i<n→b i≠b2:=hay b2 rfl
 have aD:b1≠b2:=fun e=>(hax b1 rfl).1 (by rw[e];rfl)
 have cell: ∀ {cs:Array Value} {zs:List (List Value)} {z:Nat→Int},(∀(j:Nat) u v,zs[j]? =some [u,v]→cs[2*j]? =some u∧cs[2*j+1]? =some v)→(∀j,j<ml→zs[j]? =some [.int .i64 (z (2*j)),.int .i64 (z (2*j+1))])→ ∀j,j<2*ml→cs[j]? =some (.int .i64 (z j)):=by
  intro cs zs z hcs ez j hj
  have hq:=hcs (j / 2) _ _ (ez (j / 2) (by omega))
  by_cases p:j % 2=0
  ·have:=hq.1;rw[show 2*(j / 2)=j by omega]at this;exact this
  ·have:=hq.2;rw[show 2*(j / 2)+1=j by omega]at this;exact this
 have aB: ∀ {α:Type} (g:Nat→α) (u v:α),upd (upd g n u) (n+1) v n=u:=fun g u v=>by rw[upd_ne _ _ (by omega),upd_same]
 have aC: ∀ {α:Type} (g:Nat→α) (u v:α),upd (upd g n u) (n+1) v (n+1)=v:=fun g u v=>upd_same _ _ _
 have atl: ∀ {α:Type} (g:Nat→α) (u v:α) {i:Nat},i<n→upd (upd g n u) (n+1) v i=g i:=fun g u v i hi=>by rw[upd_ne _ _ (by omega),upd_ne _ _ (by omega)]
 refine⟨b1,b2,?_,fun i hi=>?_,fun i j hi hj e=>?_,fun i hi=>?_,hb⟩
 ·have e:(List.range (n+1+1)).map (fun i=>[Value.slice (some ⟨upd (upd b n b1) (n+1) b2 i,0,none⟩) ml (upd (upd cc n c1) (n+1) c2 i)])=((List.range n).map fun i=>[Value.slice (some ⟨b i,0,none⟩) ml (cc i)]) ++ [[.slice (some ⟨b1,0,none⟩) xs.length c1],[.slice (some ⟨b2,0,none⟩) ys.length c2]]:=by
   rw[List.range_succ,List.range_succ,List.map_append,List.map_append,List.map_singleton,List.map_singleton,aB,aB,aC,aC,hlx,hly,List.append_assoc]
   congr 1
   exact List.map_congr_left (fun i hi=>by have:=List.mem_range.1 hi;rw[atl _ _ _ (by omega),atl _ _ _ (by omega)])
  rw[e]
  exact ho
 ·by_cases e0:i=n
  ·subst e0
   rw[aB,aB]
   exact⟨aR,blk_grown aJ hg (aI aJ),cell aG ex⟩
  ·by_cases e1:i=n+1
   ·subst e1
    rw[aC,aC]
    exact⟨aP,blk_grown aL hg (aI aL),cell aH ey⟩
   ·rw[atl _ _ _ (by omega),atl _ _ _ (by omega)]
    obtain⟨cs',h1,h2⟩:=h.rw i (by omega)
    exact⟨cs',blk_grown h1 hg (aI h1),h2⟩
 ·have sp: ∀i,i<n+1+1→i<n∨i=n∨i=n+1:=by omega
  rcases sp i hi with a|a|a <;> rcases sp j hj with c|c|c
  ·rw[atl _ _ _ a,atl _ _ _ c]at e;exact h.inj i j a c e
  ·subst c;rw[atl _ _ _ a,aB]at e;exact absurd e (aM i a)
  ·subst c;rw[atl _ _ _ a,aC]at e;exact absurd e (aK i a)
  ·subst a;rw[aB,atl _ _ _ c]at e;exact absurd e.symm (aM j c)
  ·omega
  ·subst a;subst c;rw[aB,aC]at e;exact absurd e aD
  ·subst a;rw[aC,atl _ _ _ c]at e;exact absurd e.symm (aK j c)
  ·subst a;subst c;rw[aB,aC]at e;exact absurd e.symm aD
  ·omega
 ·by_cases e0:i=n
  ·subst e0;rw[aB];exact aS
  ·by_cases e1:i=n+1
   ·subst e1;rw[aC];exact aN
   ·rw[atl _ _ _ (by omega)];exact h.bb i (by omega)
protected theorem tb (h:TJ w0 n ml vA b cc X W): ∃g A cap,vA= .slice A n cap∧(0<n→A=some ⟨g,0,none⟩)∧TB 140 142 w0.heap.size g n ml (2*ml) b cc X W:=by
 obtain⟨A,cap,hv⟩:=Kd.R_slice h.hd
 rw[List.length_map,List.length_range]at hv
 by_cases hn:0<n
 ·obtain⟨g,cap',hv',hb,_,cells,hc⟩:=Kd.R_form h.hd (by simpa using hn)
  rw[List.length_map,List.length_range]at hv'
  rw[hv]at hv'
  injection hv' with e1 e2 e3
  subst e1 e3
  have hR:=h.hd
  rw[hv]at hR
  refine⟨g,_,cap,hv,fun _=>rfl,fun _=>⟨cells,hc,fun i hi=>?_⟩,h.rw,h.inj,fun i hi=>?_,fun _=>hb,h.bb⟩
  ·obtain⟨ad,c,ha,hcl,hK,hcc⟩:=Kd.C_get (Kd.R_reads' hR).2.2 ([]:List Value) (i:Int) (by omega) (by simp;omega)
   injection ha with ha
   subst ha
   have e:((List.range n).map fun i=>[Value.slice (some ⟨b i,0,none⟩) ml (cc i)]).getD (i:Int).toNat []= [Value.slice (some ⟨b i,0,none⟩) ml (cc i)]:=by
    rw[Int.toNat_natCast,List.getD_eq_getElem?_getD];simp[hi]
   rw[e]at hK
   have aF:c= [Value.slice (some ⟨b i,0,none⟩) ml (cc i)]:=hK.1
   have h3:=hcc 0 (Value.slice (some ⟨b i,0,none⟩) ml (cc i)) (by rw[aF];rfl)
   have e2:(⟨g,0,none⟩:Addr).add ((i:Int).toNat*(Kd.raw 1).sz+0)=⟨g,i,none⟩:=by
    rw[Int.toNat_natCast,show(Kd.raw 1).sz=1 from rfl,Nat.mul_one,Nat.add_zero]
    unfold Addr.add
    by_cases h0:i=0
    ·rw[if_pos h0,h0]
    ·rw[if_neg h0];simp
   rw[e2,blk_cell hc]at h3
   exact h3
  ·intro e
   obtain⟨cs,h1,_⟩:=h.rw i hi
   exact blk_ne h1 hc (by decide) e
 ·have aQ:n=0:=by omega
  subst aQ
  exact⟨0,A,cap,hv,fun z=>absurd z (Nat.lt_irrefl _),fun z=>absurd z (Nat.lt_irrefl _),h.rw,h.inj,fun i hi=>absurd hi (Nat.not_lt_zero _),fun z=>absurd z (Nat.lt_irrefl _),h.bb⟩
end
end TJ
structure RF2 (w0:World) (n:Nat) (b:Nat→Nat) (v9 aA:Value) (xs ys:List (List Value)) (W:World):Prop where
 x:Kd.R (Kd.raw 2) 142 W w0.heap.size (fun _=>True) v9 xs
 y:Kd.R (Kd.raw 2) 142 W w0.heap.size (fun _=>True) aA ys
 ax: ∀k,v9.ownBlock=some k→aA.ownBlock≠some k∧ ∀i,i<n→b i≠k
 ay: ∀k,aA.ownBlock=some k→ ∀i,i<n→b i≠k
namespace RF2
section
variable {w0 W W1:World} {n:Nat} {b:Nat→Nat} {v9 aA v1:Value} {xs ys aE:List (List Value)}
protected theorem below (h:RF2 w0 n b v9 aA xs ys W) (hb:Below W.heap.size W W1):RF2 w0 n b v9 aA xs ys W1:=⟨Kd.R_below h.x hb,Kd.R_below h.y hb,h.ax,h.ay⟩
protected theorem drew (h:RF2 w0 n b v9 aA xs ys W):RF2 w0 n b v9 aA xs ys W.drew:=h.below (below_drew (Below.refl _ _))
protected theorem drewN (h:RF2 w0 n b v9 aA xs ys W) (k:Nat):RF2 w0 n b v9 aA xs ys (W.drewN k):=h.below (pw_below_drewN (Below.refl _ _) k)
protected theorem growX (h:RF2 w0 n b v9 aA xs ys W) (hbl: ∀i,i<n→b i<W.heap.size) (ho:Kd.R (Kd.raw 2) 142 W1 w0.heap.size (fun _=>True) v1 aE) (hg:W.grownBy W1 v9.ownBlock) (hat:v1.ownBlock=v9.ownBlock∨ ∃b,v1.ownBlock=some b∧W.heap.size≤b):RF2 w0 n b v1 aA aE ys W1:=by
 refine⟨ho,Kd.R_mono (Kd.R_grown (Kd.R_tight rfl h.y) hg (fun k hk e=>(h.ax k e.symm).1 hk.symm)) (fun _ _=>trivial),fun k hk=>?_,h.ay⟩
 rcases hat with e|⟨b',e,hb'⟩
 ·exact h.ax k (e▸hk)
 ·rw[e]at hk
  injection hk with hk
  exact⟨fun z=>by have:=Kd.R_lt h.y k z;omega,fun i hi z=>by have:=hbl i hi;omega⟩
protected theorem growY (h:RF2 w0 n b v9 aA xs ys W) (hbl: ∀i,i<n→b i<W.heap.size) (ho:Kd.R (Kd.raw 2) 142 W1 w0.heap.size (fun _=>True) v1 aE) (hg:W.grownBy W1 aA.ownBlock) (hat:v1.ownBlock=aA.ownBlock∨ ∃b,v1.ownBlock=some b∧W.heap.size≤b):RF2 w0 n b v9 v1 xs aE W1:=by
 refine⟨Kd.R_mono (Kd.R_grown (Kd.R_tight rfl h.x) hg (fun k hk e=>(h.ax k hk.symm).1 e.symm)) (fun _ _=>trivial),ho,fun k hk=>⟨fun z=>?_,(h.ax k hk).2⟩,fun k hk=>?_⟩
 ·rcases hat with e|⟨b',e,hb'⟩
  ·exact(h.ax k hk).1 (e▸z)
  ·rw[e]at z
   injection z with z
   have:=Kd.R_lt h.x k hk;omega
 ·rcases hat with e|⟨b',e,hb'⟩
  ·exact h.ay k (e▸hk)
  ·rw[e]at hk
   injection hk with hk
   exact fun i hi z=>by have:=hbl i hi;omega
end
end RF2
end Go.Proofs.Ytebbdadpgapobaa.Fra
