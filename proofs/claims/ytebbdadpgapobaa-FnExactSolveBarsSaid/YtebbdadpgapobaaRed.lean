/- The reference's tables and their elimination: what they leave in memory. -/
import Derived.Test.YtebbdadpgapobaaProg
import Derived.Below
import Derived.Deep.Draws
import Derived.Deep.AppendLies
import Derived.Maps.AppendAt
import Derived.OwnWalk
import Derived.Laws.BytesArg
import Derived.Laws.MakeOwn
import Derived.Laws.OwnMore
import Derived.Deep.OwnRows
import Derived.Tactics
import Derived.Lib.ConvBytes
import Derived.Laws.Slices
import Derived.WalkKit
import Derived.KernelRfl
import Derived.RowKit3
import Derived.Deep.LoopGhost
import Derived.Deep.QuietTactic
import Derived.BigQuiet
import Derived.WideLaws
import Derived.Deep.DeepCutAuto
import Derived.Deep.CutBlock
import Derived.Deep.RegionHeld3
import Derived.Laws.Rows
import Derived.Lib.AppendStr
import Derived.ArgAppend
import Derived.Laws.IdiomCopy
import Derived.OrdersHeld
import Derived.Laws.BitsLemmas
import Derived.RowKit
import Derived.Test.YtebbdadpgapobaaVWords
import Derived.Test.YtebbdadpgapobaaVLast
import Derived.Test.YtebbdadpgapobaaVTab
import Derived.Test.YtebbdadpgapobaaVFour
import Derived.Test.YtebbdadpgapobaaVQPut
import Derived.Test.YtebbdadpgapobaaVApart
import Derived.Test.YtebbdadpgapobaaVArr
import Derived.Test.YtebbdadpgapobaaVZeros
import Derived.Test.YtebbdadpgapobaaVFoot
import Derived.Test.YtebbdadpgapobaaVKept
import Derived.Test.YtebbdadpgapobaaVShare
import Derived.Test.YtebbdadpgapobaaVN
import Derived.Test.YtebbdadpgapobaaVFootNe
import Derived.Test.YtebbdadpgapobaaVAt
import Derived.Test.YtebbdadpgapobaaVEqStruct
import Derived.Test.YtebbdadpgapobaaVRepsOne
import Derived.Test.YtebbdadpgapobaaVInv
import Derived.Test.YtebbdadpgapobaaVInvWords
import Derived.Test.YtebbdadpgapobaaVGuard
import Derived.Test.YtebbdadpgapobaaVNEv
import Derived.Test.YtebbdadpgapobaaVMore
import Derived.Test.YtebbdadpgapobaaLibAlt
import Derived.StillTailTactics
import Derived.Deep.RegionWith
namespace Go.Proofs.Ytebbdadpgapobaa.Red
open Go.RowKit Go.Proofs.YtebbdadpgapobaaW.PrintWords Go.Proofs.YtebbdadpgapobaaW.PrintLast Go.Proofs.YtebbdadpgapobaaW.PrintMore
attribute [local go_sem] max2_int min2_int max_two min_two max_three min_three max_four min_four
set_option linter.unusedVariables false
set_option linter.unusedSimpArgs false
theorem info2:(Try.prog.info? 2).map (fun i=>(i.zero,i.size,i.bytes))=some (some (.int .i64 0),1,8):=by kernel_rfl
theorem info3:(Try.prog.info? 3).map (fun i=>(i.zero,i.size,i.bytes))=some (some (.int .i64 0),1,8):=by kernel_rfl
theorem info26:(Try.prog.info? 26).map (fun i=>(i.zero,i.size,i.bytes))=some (some (.slice none 0 0),1,24):=by kernel_rfl
theorem size_alloc (W:World) (o:Obj):(W.alloc o).heap.size=W.heap.size+1:=by show(W.heap.push o).size=_;rw[Array.size_push]
theorem alloc_at (W:World) (o:Obj):(W.alloc o).heap[W.heap.size]? =some o:=by show(W.heap.push o)[W.heap.size]? =_;rw[Array.getElem?_push,if_pos rfl]
theorem alloc_old {W:World} {g:Nat} {o:Obj} (h:W.heap[g]? =some o) (o':Obj):(W.alloc o').heap[g]? =some o:=(Below.heap_alloc W o' g (blk_lt h)).trans h
structure TB (tr tel base g n m wd:Nat) (b cc:Nat→Nat) (X:Nat→Nat→Int) (W:World):Prop where
 hd:0<n→ ∃hdr,W.heap[g]? =some (.cells hdr tr (0,0))∧ ∀i,i<n→hdr[i]? =some (.slice (some ⟨b i,0,none⟩) m (cc i))
 rw: ∀i,i<n→ ∃cs,W.heap[b i]? =some (.cells cs tel (0,0))∧ ∀j,j<wd→cs[j]? =some (.int .i64 (X i j))
 inj: ∀i j,i<n→j<n→b i=b j→i=j
 ne: ∀i,i<n→b i≠g
 bg:0<n→base≤g
 bb: ∀i,i<n→base≤b i
namespace TB
section
variable {tr tel base g n m wd:Nat} {b cc:Nat→Nat} {X:Nat→Nat→Int} {W W1:World}
protected theorem below (h:TB tr tel base g n m wd b cc X W) (hb:Below W.heap.size W W1):TB tr tel base g n m wd b cc X W1:=
 ⟨fun hn=>by obtain⟨hdr,h1,h2⟩:=h.hd hn;exact⟨hdr,blk_below h1 hb,h2⟩,fun i hi=>by obtain⟨cs,h1,h2⟩:=h.rw i hi;exact⟨cs,blk_below h1 hb,h2⟩,h.inj,h.ne,h.bg,h.bb⟩
protected theorem drewN (h:TB tr tel base g n m wd b cc X W) (k:Nat):TB tr tel base g n m wd b cc X (W.drewN k):=h.below (pw_below_drewN (Below.refl _ _) k)
protected theorem drew (h:TB tr tel base g n m wd b cc X W):TB tr tel base g n m wd b cc X W.drew:=h.below (below_drew (Below.refl _ _))
protected theorem alloc (h:TB tr tel base g n m wd b cc X W) (o:Obj):TB tr tel base g n m wd b cc X (W.alloc o):=h.below (below_alloc (Below.refl _ _) o)
protected theorem head (h:TB tr tel base g n m wd b cc X W) {i:Nat} (hi:i<n):W.cell? ⟨g,i,none⟩=some (.slice (some ⟨b i,0,none⟩) m (cc i)):=by
 obtain⟨hdr,h1,h2⟩:=h.hd (by omega)
 rw[blk_cell h1];exact h2 i hi
protected theorem headZ (h:TB tr tel base g n m wd b cc X W) {i:Nat} (hi:i<n) (j:Nat):W.frozen? ⟨g,j,none⟩=false:=by
 obtain⟨hdr,h1,h2⟩:=h.hd (by omega)
 exact blk_frozen h1 j
protected theorem num (h:TB tr tel base g n m wd b cc X W) {i j:Nat} (hi:i<n) (hj:j<wd):W.cell? ⟨b i,j,none⟩=some (.int .i64 (X i j)):=by
 obtain⟨cs,h1,h2⟩:=h.rw i hi
 rw[blk_cell h1];exact h2 j hj
protected theorem numZ (h:TB tr tel base g n m wd b cc X W) {i:Nat} (hi:i<n) (j:Nat):W.frozen? ⟨b i,j,none⟩=false:=by
 obtain⟨cs,h1,h2⟩:=h.rw i hi
 exact blk_frozen h1 j
protected theorem congr {Y:Nat→Nat→Int} (h:TB tr tel base g n m wd b cc X W) (e: ∀i j,i<n→j<wd→X i j=Y i j):TB tr tel base g n m wd b cc Y W:=
 ⟨h.hd,fun i hi=>by obtain⟨cs,h1,h2⟩:=h.rw i hi;exact⟨cs,h1,fun j hj=>by rw[h2 j hj,e i j hi hj]⟩,h.inj,h.ne,h.bg,h.bb⟩
protected theorem put (h:TB tr tel base g n m wd b cc X W) {i j:Nat} (hi:i<n) (v:Int):
 TB tr tel base g n m wd b cc (fun i' j'=>if i'=i∧j'=j then v else X i' j') (W.setCell ⟨b i,j,none⟩ (.int .i64 v)):=by
 refine⟨fun hn=>?_,fun i' hi'=>?_,h.inj,h.ne,h.bg,h.bb⟩
 ·obtain⟨hdr,h1,h2⟩:=h.hd hn
  exact⟨hdr,blk_far h1 (fun e=>h.ne i hi e.symm) _,h2⟩
 ·obtain⟨cs,h1,h2⟩:=h.rw i' hi'
  by_cases e:i'=i
  ·subst e
   refine⟨_,blk_set h1 j _,fun j' hj'=>?_⟩
   by_cases e2:j'=j
   ·subst e2
    have hlt:j'<cs.size:=(Array.getElem?_eq_some_iff.1 (h2 j' hj')).1
    rw[Array.getElem?_setIfInBounds_self_of_lt hlt,if_pos ⟨rfl,rfl⟩]
   ·rw[Array.getElem?_setIfInBounds_ne (fun z=>e2 z.symm),if_neg (fun z=>e2 z.2)]
    exact h2 j' hj'
  ·refine⟨cs,blk_far h1 (fun z=>e (h.inj i' i hi' hi z)) _,fun j' hj'=>?_⟩
   rw[if_neg (fun z=>e z.1)]
   exact h2 j' hj'
protected theorem far (h:TB tr tel base g n m wd b cc X W) {p:Addr} (hp:p.block<base) (u:Value):TB tr tel base g n m wd b cc X (W.setCell p u):=
 ⟨fun hn=>by obtain⟨hdr,h1,h2⟩:=h.hd hn;exact⟨hdr,blk_far h1 (by have:=h.bg hn;omega) _,h2⟩,fun i hi=>by obtain⟨cs,h1,h2⟩:=h.rw i hi;exact⟨cs,blk_far h1 (by have:=h.bb i hi;omega) _,h2⟩,h.inj,h.ne,h.bg,h.bb⟩
protected theorem away (h:TB tr tel base g n m wd b cc X W) {p:Addr} (hg:g≠p.block) (hp: ∀i,i<n→b i≠p.block) (u:Value):TB tr tel base g n m wd b cc X (W.setCell p u):=
 ⟨fun hn=>by obtain⟨hdr,h1,h2⟩:=h.hd hn;exact⟨hdr,blk_far h1 hg _,h2⟩,fun i hi=>by obtain⟨cs,h1,h2⟩:=h.rw i hi;exact⟨cs,blk_far h1 (hp i hi) _,h2⟩,h.inj,h.ne,h.bg,h.bb⟩
protected theorem types (h:TB tr tel base g n m wd b cc X W) {p t:Nat} {cs:Array Value} (hp:W.heap[p]? =some (.cells cs t (0,0))) (h1:t≠tr) (h2:t≠tel):(0<n→g≠p)∧ ∀i,i<n→b i≠p:=by
 refine⟨fun hn e=>?_,fun i hi e=>?_⟩
 ·obtain⟨hdr,h3,_⟩:=h.hd hn
  exact blk_ne h3 hp (fun z=>h1 z.symm) e
 ·obtain⟨cs',h3,_⟩:=h.rw i hi
  exact blk_ne h3 hp (fun z=>h2 z.symm) e
protected theorem farT (h:TB tr tel base g n m wd b cc X W) {p t:Nat} {cs:Array Value} (hp:W.heap[p]? =some (.cells cs t (0,0))) (h1:t≠tr) (h2:t≠tel) (j:Nat) (u:Value):TB tr tel base g n m wd b cc X (W.setCell ⟨p,j,none⟩ u):=
 ⟨fun hn=>by obtain⟨hdr,h3,h4⟩:=h.hd hn;exact⟨hdr,blk_far h3 ((h.types hp h1 h2).1 hn) _,h4⟩,fun i hi=>by obtain⟨cs,h3,h4⟩:=h.rw i hi;exact⟨cs,blk_far h3 ((h.types hp h1 h2).2 i hi) _,h4⟩,h.inj,h.ne,h.bg,h.bb⟩
protected theorem keepN (h:TB tr tel base g n m wd b cc X W) {p t:Nat} {cs:Array Value} (hp:W.heap[p]? =some (.cells cs t (0,0))) (h2:t≠tel) {i:Nat} (hi:i<n) (j:Nat) (u:Value):(W.setCell ⟨b i,j,none⟩ u).heap[p]? =some (.cells cs t (0,0)):=by
 refine blk_far hp (fun e=>?_) _
 obtain⟨cs',h3,_⟩:=h.rw i hi
 exact blk_ne h3 hp (fun z=>h2 z.symm) e.symm
protected theorem keepH (h:TB tr tel base g n m wd b cc X W) {p t:Nat} {cs:Array Value} (hp:W.heap[p]? =some (.cells cs t (0,0))) (h1:t≠tr) (hn:0<n) (j:Nat) (u:Value):(W.setCell ⟨g,j,none⟩ u).heap[p]? =some (.cells cs t (0,0)):=by
 refine blk_far hp (fun e=>?_) _
 obtain⟨hdr,h3,_⟩:=h.hd hn
 exact blk_ne h3 hp (fun z=>h1 z.symm) e.symm
end
end TB
theorem lit_R {α:Type} (d:Kd α) (W:World) (e base:Nat) {xs:List α} {inner:List Value} (hrep: ∀w b ok,Reps (d.M w b ok) d.sz xs inner) (hb:base≤W.heap.size) (hm:xs.length≤1000000):d.R e (W.alloc (.cells inner.toArray e)) base (fun _=>True) (.slice (some ⟨W.heap.size,0,none⟩) xs.length xs.length) xs:=by
 have hl:inner.length=xs.length*d.sz:=(hrep W base (fun _=>True)).1
 refine⟨fun _ _=>trivial,inner,⟨hl,.inr ⟨W.heap.size,xs.length,inner.toArray,rfl,hb,alloc_at _ _,Nat.le_refl _,by unfold maxLen;omega,by simpa using hl,List.take_of_length_le (by simp[hl])⟩⟩,hrep _ _ _⟩
theorem wrap_id (a:Int) (h0: -9223372036854775808≤a) (h1:a≤9223372036854775807):wrap64 a=a:=by unfold wrap64;omega
theorem row_cell {e base g n cap:Nat} {ok:Nat→Prop} {W:World} {xs:List Int} (h:(Kd.int .i64).R e W base ok (.slice (some ⟨g,0,none⟩) n cap) xs) (i:Int) (h0:0≤i) (hi:i<n):W.cell? ⟨g,i.toNat,none⟩=some (.int .i64 (rd xs i))∧W.frozen? ⟨g,i.toNat,none⟩=false:=by
 obtain⟨rfl,_⟩:=Kd.R_reads' h
 exact Kd.R_cell (0:Int) h i h0 hi
theorem row_blk {e base n c:Nat} {ok:Nat→Prop} {W:World} {A:Option Addr} {xs:List Int} (h:(Kd.int .i64).R e W base ok (.slice A n c) xs) (hp:0<xs.length):
 ∃g cs,A=some ⟨g,0,none⟩∧n=xs.length∧base≤g∧W.heap[g]? =some (.cells cs e (0,0))∧ ∀j,j<xs.length→cs[j]? =some (.int .i64 (rd xs j)):=by
 obtain⟨g,cap,hv,hb,_,cs,hc⟩:=Kd.R_form h hp
 injection hv with h1 h2 h3
 subst h1 h2 h3
 refine⟨g,cs,rfl,rfl,hb,hc,fun j hj=>?_⟩
 have h4:=(row_cell h (j:Int) (by omega) (by omega)).1
 rw[Int.toNat_natCast,blk_cell hc]at h4
 exact h4
open Go.Proofs.Ytebbdadpgapobaa.Elim in
structure TI (w0:World) (gm n ml:Nat) (mi:Int) (vA:Value) (b cc:Nat→Nat) (X:Nat→Nat→Int) (W:World):Prop where
 gmb:W.heap[gm]? =some (.cells #[vA,.int .i64 mi] 137 (0,0))
 hd:Kd.R (Kd.raw 1) 26 W w0.heap.size (fun _=>True) vA ((List.range n).map fun i=>[.slice (some ⟨b i,0,none⟩) ml (cc i)])
 rw: ∀i,i<n→ ∃cs,W.heap[b i]? =some (.cells cs 2 (0,0))∧ ∀j,j<ml→cs[j]? =some (.int .i64 (X i j))
 inj: ∀i j,i<n→j<n→b i=b j→i=j
 bb: ∀i,i<n→w0.heap.size≤b i
 gb:w0.heap.size≤gm
 bw:Below w0.heap.size w0 W
namespace TI
section
open Go.Proofs.Ytebbdadpgapobaa.Elim
variable {w0 W W1:World} {gm n ml:Nat} {mi:Int} {vA:Value} {b cc:Nat→Nat} {X:Nat→Nat→Int}
protected theorem below (h:TI w0 gm n ml mi vA b cc X W) (hb:Below W.heap.size W W1):TI w0 gm n ml mi vA b cc X W1:=
 ⟨blk_below h.gmb hb,Kd.R_below h.hd hb,fun i hi=>by obtain⟨cs,h1,h2⟩:=h.rw i hi;exact⟨cs,blk_below h1 hb,h2⟩,h.inj,h.bb,h.gb,h.bw.trans (hb.mono h.bw.size)⟩
protected theorem drewN (h:TI w0 gm n ml mi vA b cc X W) (k:Nat):TI w0 gm n ml mi vA b cc X (W.drewN k):=h.below (pw_below_drewN (Below.refl _ _) k)
protected theorem drew (h:TI w0 gm n ml mi vA b cc X W):TI w0 gm n ml mi vA b cc X W.drew:=h.below (below_drew (Below.refl _ _))
protected theorem alloc (h:TI w0 gm n ml mi vA b cc X W) (o:Obj):TI w0 gm n ml mi vA b cc X (W.alloc o):=h.below (below_alloc (Below.refl _ _) o)
protected theorem grown (h:TI w0 gm n ml mi vA b cc X W) {vx:Value} {xs:List Int} {ok:Nat→Prop} (hx:Kd.R (Kd.int .i64) 2 W w0.heap.size ok vx xs) (hap: ∀k,vx.ownBlock=some k→ ∀i,i<n→b i≠k)
 (hg:W.grownBy W1 vx.ownBlock) (hb:Below w0.heap.size w0 W1):TI w0 gm n ml mi vA b cc X W1:=
 ⟨blk_grown h.gmb hg (fun e=>Kd.R_ne hx h.gmb (by decide) e),Kd.R_over' h.hd (Kd.R_typed hx) (by simp[Kd.raw]) hg,fun i hi=>by obtain⟨cs,h1,h2⟩:=h.rw i hi;exact⟨cs,blk_grown h1 hg (fun e=>hap (b i) e.symm i hi rfl),h2⟩,h.inj,h.bb,h.gb,hb⟩
protected theorem push (h:TI w0 gm n ml mi vA b cc X W) {A1:Option Addr} {n1 c1:Nat} {xs:List Int} {ok:Nat→Prop} (hx:Kd.R (Kd.int .i64) 2 W w0.heap.size ok (.slice A1 n1 c1) xs) (hl:xs.length=ml) (h0:0<ml)
 (hap: ∀k,(Value.slice A1 n1 c1).ownBlock=some k→ ∀i,i<n→b i≠k) {vB:Value} (ho:Kd.R (Kd.raw 1) 26 W1 w0.heap.size (fun _=>True) vB (((List.range n).map fun i=>[.slice (some ⟨b i,0,none⟩) ml (cc i)]) ++ [[.slice A1 n1 c1]]))
 (hb:Below w0.heap.size w0 W1) (hg:W.grownBy W1 vA.ownBlock):
 ∃bk,A1=some ⟨bk,0,none⟩∧n1=ml∧W1.heap[gm]? =some (.cells #[vA,.int .i64 mi] 137 (0,0))∧TI w0 gm (n+1) ml mi vB (upd b n bk) (upd cc n c1) (upd X n (fun j=>rd xs j)) (W1.setCell ⟨gm,0,none⟩ vB):=by
 obtain⟨bk,cs,rfl,rfl,hbk,hc,hcs⟩:=row_blk hx (by omega)
 have aC: ∀ {k:Nat} {cs:Array Value},W.heap[k]? =some (.cells cs 2 (0,0))→some k≠vA.ownBlock:=fun hk e=>Kd.R_ne h.hd hk (by decide) e
 have g1:=blk_grown h.gmb hg (fun e=>Kd.R_ne h.hd h.gmb (by decide) e)
 have apk: ∀i,i<n→b i≠bk:=hap bk rfl
 refine⟨bk,rfl,hl,g1,?_,?_,fun i hi=>?_,fun i j hi hj e=>?_,fun i hi=>?_,h.gb,below_set hb h.gb⟩
 ·have:=blk_set g1 0 vB
  simpa using this
 ·have e:(List.range (n+1)).map (fun i=>[Value.slice (some ⟨upd b n bk i,0,none⟩) ml (upd cc n c1 i)])=((List.range n).map fun i=>[Value.slice (some ⟨b i,0,none⟩) ml (cc i)]) ++ [[.slice (some ⟨bk,0,none⟩) xs.length c1]]:=by
   rw[List.range_succ,List.map_append,List.map_singleton,upd_same,upd_same,hl]
   congr 1
   exact List.map_congr_left (fun i hi=>by have:=List.mem_range.1 hi;rw[upd_ne _ _ (by omega),upd_ne _ _ (by omega)])
  rw[e]
  exact Kd.R_set ho g1 (by simp[Kd.raw]) 0 vB
 ·by_cases e:i=n
  ·subst e
   rw[upd_same,upd_same]
   refine⟨cs,blk_far (blk_grown hc hg (aC hc)) (fun e=>blk_ne (blk_grown hc hg (aC hc)) g1 (by decide) e) _,fun j hj=>hcs j (by omega)⟩
  ·rw[upd_ne _ _ e,upd_ne _ _ e]
   obtain⟨cs',h1,h2⟩:=h.rw i (by omega)
   exact⟨cs',blk_far (blk_grown h1 hg (aC h1)) (fun e=>blk_ne (blk_grown h1 hg (aC h1)) g1 (by decide) e) _,h2⟩
 ·by_cases e1:i=n
  ·by_cases e2:j=n
   ·omega
   ·rw[e1,upd_same,upd_ne _ _ e2]at e
    exact absurd e.symm (apk j (by omega))
  ·by_cases e2:j=n
   ·rw[e2,upd_same,upd_ne _ _ e1]at e
    exact absurd e (apk i (by omega))
   ·rw[upd_ne _ _ e1,upd_ne _ _ e2]at e
    exact h.inj i j (by omega) (by omega) e
 ·by_cases e:i=n
  ·subst e;rw[upd_same];exact hbk
  ·rw[upd_ne _ _ e];exact h.bb i (by omega)
protected theorem tb (h:TI w0 gm n ml mi vA b cc X W): ∃g A cap,vA= .slice A n cap∧(0<n→A=some ⟨g,0,none⟩)∧TB 26 2 w0.heap.size g n ml ml b cc X W:=by
 obtain⟨A,cap,hv⟩:=Kd.R_slice h.hd
 rw[List.length_map,List.length_range]at hv
 by_cases hn:0<n
 ·obtain⟨g,cap',hv',hb,_,cells,hc⟩:=Kd.R_form h.hd (by simpa using hn)
  rw[List.length_map,List.length_range]at hv'
  rw[hv]at hv'
  injection hv' with e1 e2 e3
  subst e1 e3
  have hR:=h.hd
  rw[hv]at hR
  refine⟨g,_,cap,hv,fun _=>rfl,fun _=>⟨cells,hc,fun i hi=>?_⟩,h.rw,h.inj,fun i hi=>?_,fun _=>hb,h.bb⟩
  ·obtain⟨ad,c,ha,hcl,hK,hcc⟩:=Kd.C_get (Kd.R_reads' hR).2.2 ([]:List Value) (i:Int) (by omega) (by simp;omega)
   injection ha with ha
   subst ha
   have e:((List.range n).map fun i=>[Value.slice (some ⟨b i,0,none⟩) ml (cc i)]).getD (i:Int).toNat []= [Value.slice (some ⟨b i,0,none⟩) ml (cc i)]:=by
    rw[Int.toNat_natCast,List.getD_eq_getElem?_getD];simp[hi]
   rw[e]at hK
   have aE:c= [Value.slice (some ⟨b i,0,none⟩) ml (cc i)]:=hK.1
   have h3:=hcc 0 (Value.slice (some ⟨b i,0,none⟩) ml (cc i)) (by rw[aE];rfl)
   have e2:(⟨g,0,none⟩:Addr).add ((i:Int).toNat*(Kd.raw 1).sz+0)=⟨g,i,none⟩:=by
    rw[Int.toNat_natCast,show(Kd.raw 1).sz=1 from rfl,Nat.mul_one,Nat.add_zero]
    unfold Addr.add
    by_cases h0:i=0
    ·rw[if_pos h0,h0]
    ·rw[if_neg h0];simp
   rw[e2,blk_cell hc]at h3
   exact h3
  ·intro e
   obtain⟨cs,h1,_⟩:=h.rw i hi
   exact blk_ne h1 hc (by decide) e
 ·have aD:n=0:=by omega
  subst aD
  exact⟨0,A,cap,hv,fun z=>absurd z (Nat.lt_irrefl _),fun z=>absurd z (Nat.lt_irrefl _),h.rw,h.inj,fun i hi=>absurd hi (Nat.not_lt_zero _),fun z=>absurd z (Nat.lt_irrefl _),h.bb⟩
end
end TI
structure RW2 (w0:World) (n:Nat) (b:Nat→Nat) (v9 aA:Value) (xs ys:List Int) (W:World):Prop where
 x:Kd.R (Kd.int .i64) 2 W w0.heap.size (fun _=>True) v9 xs
 y:Kd.R (Kd.int .i64) 2 W w0.heap.size (fun _=>True) aA ys
 ax: ∀k,v9.ownBlock=some k→aA.ownBlock≠some k∧ ∀i,i<n→b i≠k
 ay: ∀k,aA.ownBlock=some k→ ∀i,i<n→b i≠k
namespace RW2
section
variable {w0 W W1:World} {n:Nat} {b:Nat→Nat} {v9 aA v1:Value} {xs ys aB:List Int}
protected theorem below (h:RW2 w0 n b v9 aA xs ys W) (hb:Below W.heap.size W W1):RW2 w0 n b v9 aA xs ys W1:=⟨Kd.R_below h.x hb,Kd.R_below h.y hb,h.ax,h.ay⟩
protected theorem drew (h:RW2 w0 n b v9 aA xs ys W):RW2 w0 n b v9 aA xs ys W.drew:=h.below (below_drew (Below.refl _ _))
protected theorem drewN (h:RW2 w0 n b v9 aA xs ys W) (k:Nat):RW2 w0 n b v9 aA xs ys (W.drewN k):=h.below (pw_below_drewN (Below.refl _ _) k)
protected theorem growX (h:RW2 w0 n b v9 aA xs ys W) (hbl: ∀i,i<n→b i<W.heap.size) (ho:Kd.R (Kd.int .i64) 2 W1 w0.heap.size (fun _=>True) v1 aB) (hg:W.grownBy W1 v9.ownBlock) (hat:v1.ownBlock=v9.ownBlock∨ ∃b,v1.ownBlock=some b∧W.heap.size≤b):RW2 w0 n b v1 aA aB ys W1:=by
 refine⟨ho,Kd.R_mono (Kd.R_grown (Kd.R_tight rfl h.y) hg (fun k hk e=>(h.ax k e.symm).1 hk.symm)) (fun _ _=>trivial),fun k hk=>?_,h.ay⟩
 rcases hat with e|⟨b',e,hb'⟩
 ·exact h.ax k (e▸hk)
 ·rw[e]at hk
  injection hk with hk
  exact⟨fun z=>by have:=Kd.R_lt h.y k z;omega,fun i hi z=>by have:=hbl i hi;omega⟩
protected theorem growY (h:RW2 w0 n b v9 aA xs ys W) (hbl: ∀i,i<n→b i<W.heap.size) (ho:Kd.R (Kd.int .i64) 2 W1 w0.heap.size (fun _=>True) v1 aB) (hg:W.grownBy W1 aA.ownBlock) (hat:v1.ownBlock=aA.ownBlock∨ ∃b,v1.ownBlock=some b∧W.heap.size≤b):RW2 w0 n b v9 v1 xs aB W1:=by
 refine⟨Kd.R_mono (Kd.R_grown (Kd.R_tight rfl h.x) hg (fun k hk e=>(h.ax k hk.symm).1 e.symm)) (fun _ _=>trivial),ho,fun k hk=>⟨fun z=>?_,(h.ax k hk).2⟩,fun k hk=>?_⟩
 ·rcases hat with e|⟨b',e,hb'⟩
  ·exact(h.ax k hk).1 (e▸z)
  ·rw[e]at z
   injection z with z
   have:=Kd.R_lt h.x k hk;omega
 ·rcases hat with e|⟨b',e,hb'⟩
  ·exact h.ay k (e▸hk)
  ·rw[e]at hk
   injection hk with hk
   exact fun i hi z=>by have:=hbl i hi;omega
end
end RW2
theorem TI.rows_lt {w0 W:World} {gm n ml:Nat} {mi:Int} {vA:Value} {b cc:Nat→Nat} {X:Nat→Nat→Int} (h:TI w0 gm n ml mi vA b cc X W): ∀i,i<n→b i<W.heap.size:=fun i hi=>by obtain⟨cs,h1,_⟩:=h.rw i hi;exact blk_lt h1
theorem TI.side {w0 W W1:World} {gm n ml:Nat} {mi:Int} {vA:Value} {b cc:Nat→Nat} {X:Nat→Nat→Int} (h:TI w0 gm n ml mi vA b cc X W) {vy:Value} {ys:List Int} {ok:Nat→Prop} (hy:Kd.R (Kd.int .i64) 2 W w0.heap.size ok vy ys) (hg:W.grownBy W1 vA.ownBlock) (u:Value):
 Kd.R (Kd.int .i64) 2 (W1.setCell ⟨gm,0,none⟩ u) w0.heap.size ok vy ys:=by
 have g1:=blk_grown h.gmb hg (fun e=>Kd.R_ne h.hd h.gmb (by decide) e)
 exact Kd.R_set (Kd.R_over' hy (Kd.R_typed h.hd) (by simp[Kd.int,Kd.scalar]) hg) g1 (by simp[Kd.int,Kd.scalar]) 0 u
open Go.Proofs.Ytebbdadpgapobaa.Elim in
def RedPost (w0:World) (gm g n m cap:Nat) (mi:Int) (A:Option Addr) (M0:Nat→Nat→Int) (e:Ending) (w':World):Prop:=
 ∃(v:Value) (pv:List Int),e= .returned (.tuple #[v,.int .i64 (El n M0 m).d])∧Kd.R (Kd.int .i64) 3 w' w0.heap.size (fun _=>True) v pv∧pv.length=(El n M0 m).t∧
  (∃b cc,TB 26 2 w0.heap.size g n (m+1) (m+1) b cc (El n M0 m).M w')∧w'.heap[gm]? =some (.cells #[.slice A n cap,.int .i64 mi] 137 (0,0))∧Below w0.heap.size w0 w'
section
open Go.Proofs.Ytebbdadpgapobaa.Elim
variable {w0 W:World} {gm g n m cap:Nat} {mi:Int} {A:Option Addr} {b cc:Nat→Nat} {M0:Nat→Nat→Int}
structure RI (w0:World) (gm g n m cap:Nat) (mi:Int) (A:Option Addr) (X:Nat→Nat→Int) (v:Value) (pv:List Int) (b cc:Nat→Nat) (W:World):Prop where
 tb:TB 26 2 w0.heap.size g n (m+1) (m+1) b cc X W
 gm:W.heap[gm]? =some (.cells #[.slice A n cap,.int .i64 mi] 137 (0,0))
 pv:Kd.R (Kd.int .i64) 3 W w0.heap.size (fun _=>True) v pv
 bw:Below w0.heap.size w0 W
namespace RI
section
variable {X:Nat→Nat→Int} {v:Value} {pv:List Int} {W1:World}
protected theorem below (h:RI w0 gm g n m cap mi A X v pv b cc W) (hb:Below W.heap.size W W1):RI w0 gm g n m cap mi A X v pv b cc W1:=
 ⟨h.tb.below hb,blk_below h.gm hb,Kd.R_below h.pv hb,h.bw.trans (hb.mono h.bw.size)⟩
protected theorem drewN (h:RI w0 gm g n m cap mi A X v pv b cc W) (k:Nat):RI w0 gm g n m cap mi A X v pv b cc (W.drewN k):=h.below (pw_below_drewN (Below.refl _ _) k)
protected theorem drew (h:RI w0 gm g n m cap mi A X v pv b cc W):RI w0 gm g n m cap mi A X v pv b cc W.drew:=h.below (below_drew (Below.refl _ _))
protected theorem congr {Y:Nat→Nat→Int} (h:RI w0 gm g n m cap mi A X v pv b cc W) (e: ∀i j,i<n→j<m+1→X i j=Y i j):RI w0 gm g n m cap mi A Y v pv b cc W:=⟨h.tb.congr e,h.gm,h.pv,h.bw⟩
protected theorem put (h:RI w0 gm g n m cap mi A X v pv b cc W) {i j:Nat} (hi:i<n) (x:Int):RI w0 gm g n m cap mi A (fun i' j'=>if i'=i∧j'=j then x else X i' j') v pv b cc (W.setCell ⟨b i,j,none⟩ (.int .i64 x)):=by
 obtain⟨cs,h1,_⟩:=h.tb.rw i hi
 exact⟨h.tb.put hi x,h.tb.keepN h.gm (by decide) hi j _,Kd.R_set h.pv h1 (by simp[Kd.int,Kd.scalar]) j _,below_set h.bw (h.tb.bb i hi)⟩
protected theorem swap (h:RI w0 gm g n m cap mi A X v pv b cc W) {t q:Nat} (ht:t<n) (hq:q<n):
 RI w0 gm g n m cap mi A (swp X t q) v pv (swp b t q) (swp cc t q) ((W.setCell ⟨g,q,none⟩ (.slice (some ⟨b t,0,none⟩) (m+1) (cc t))).setCell ⟨g,t,none⟩ (.slice (some ⟨b q,0,none⟩) (m+1) (cc q))):=by
 obtain⟨hdr,h1,h2⟩:=h.tb.hd (by omega)
 have h3:=blk_set h1 q (.slice (some ⟨b t,0,none⟩) (m+1) (cc t))
 have h4:=blk_set h3 t (.slice (some ⟨b q,0,none⟩) (m+1) (cc q))
 have hg:=h.tb.bg (by omega)
 refine⟨⟨fun _=>⟨_,h4,fun i hi=>?_⟩,fun i hi=>?_,fun i j hi hj e=>?_,fun i hi=>?_,fun _=>hg,fun i hi=>?_⟩,?_,?_,below_set (below_set h.bw hg) hg⟩
 ·have l1:t<hdr.size:=(Array.getElem?_eq_some_iff.1 (h2 t ht)).1
  have l2:q<hdr.size:=(Array.getElem?_eq_some_iff.1 (h2 q hq)).1
  by_cases e1:i=t
  ·subst e1
   rw[Array.getElem?_setIfInBounds_self_of_lt (by simpa using l1),swp_fst,swp_fst]
  ·rw[Array.getElem?_setIfInBounds_ne (fun z=>e1 z.symm)]
   by_cases e2:i=q
   ·subst e2
    rw[Array.getElem?_setIfInBounds_self_of_lt l2]
    unfold swp;rw[upd_same,upd_same]
   ·rw[Array.getElem?_setIfInBounds_ne (fun z=>e2 z.symm),swp_out _ e1 e2,swp_out _ e1 e2]
    exact h2 i hi
 ·obtain⟨k,hk,e⟩: ∃k,k<n∧swp b t q i=b k∧swp X t q i=X k:=by
   unfold swp upd
   by_cases e2:i=q
   ·exact⟨t,ht,by rw[if_pos e2,if_pos e2];exact⟨rfl,rfl⟩⟩
   ·by_cases e1:i=t
    ·exact⟨q,hq,by rw[if_neg e2,if_neg e2,if_pos e1,if_pos e1];exact⟨rfl,rfl⟩⟩
    ·exact⟨i,hi,by rw[if_neg e2,if_neg e2,if_neg e1,if_neg e1];exact⟨rfl,rfl⟩⟩
  rw[e.1,e.2]
  obtain⟨cs,h5,h6⟩:=h.tb.rw k hk
  exact⟨cs,blk_far (blk_far h5 (h.tb.ne k hk) _) (h.tb.ne k hk) _,h6⟩
 ·have key: ∀i,i<n→ ∃k,k<n∧swp b t q i=b k∧(k=if i=q then t else if i=t then q else i):=by
   intro i hi
   unfold swp upd
   by_cases e2:i=q
   ·exact⟨t,ht,by rw[if_pos e2],by rw[if_pos e2]⟩
   ·by_cases e1:i=t
    ·exact⟨q,hq,by rw[if_neg e2,if_pos e1],by rw[if_neg e2,if_pos e1]⟩
    ·exact⟨i,hi,by rw[if_neg e2,if_neg e1],by rw[if_neg e2,if_neg e1]⟩
  obtain⟨k1,a1,a2,a3⟩:=key i hi
  obtain⟨k2,b1,b2,b3⟩:=key j hj
  have:=h.tb.inj k1 k2 a1 b1 (by rw[← a2,← b2];exact e)
  rw[a3,b3]at this
  split at this <;> split at this <;> (try split at this) <;> (try split at this) <;> omega
 ·obtain⟨k,hk,e⟩:=swp_cases b t q i
  rw[e];exact h.tb.ne k (by omega)
 ·obtain⟨k,hk,e⟩:=swp_cases b t q i
  rw[e];exact h.tb.bb k (by omega)
 ·have k1:=h.tb.keepH h.gm (by decide) (by omega) q (.slice (some ⟨b t,0,none⟩) (m+1) (cc t))
  refine blk_far k1 ?_ _
  exact fun e=>blk_ne h1 h.gm (by decide) e.symm
 ·exact Kd.R_set (Kd.R_set h.pv h1 (by simp[Kd.int,Kd.scalar]) q _) h3 (by simp[Kd.int,Kd.scalar]) t _
protected theorem push (h:RI w0 gm g n m cap mi A X v pv b cc W) {v1:Value} {aA:List Int} (ho:Kd.R (Kd.int .i64) 3 W1 w0.heap.size (fun _=>True) v1 aA) (hb:Below w0.heap.size w0 W1) (hg:W.grownBy W1 v.ownBlock):RI w0 gm g n m cap mi A X v1 aA b cc W1:=by
 have ne: ∀ {k t:Nat} {cs:Array Value},W.heap[k]? =some (.cells cs t (0,0))→3≠t→some k≠v.ownBlock:=fun hk ht e=>Kd.R_ne h.pv hk ht e
 exact⟨⟨fun hn=>by obtain⟨hdr,h1,h2⟩:=h.tb.hd hn;exact⟨hdr,blk_grown h1 hg (ne h1 (by decide)),h2⟩,fun i hi=>by obtain⟨cs,h1,h2⟩:=h.tb.rw i hi;exact⟨cs,blk_grown h1 hg (ne h1 (by decide)),h2⟩,h.tb.inj,h.tb.ne,h.tb.bg,h.tb.bb⟩,
  blk_grown h.gm hg (ne h.gm (by decide)),ho,hb⟩
protected theorem mid (h:RI w0 gm g n m cap mi A X v pv b cc W) {t q:Nat} (ht:t<n) (u:Value):
 (W.setCell ⟨g,q,none⟩ u).heap[gm]? =some (.cells #[.slice A n cap,.int .i64 mi] 137 (0,0))∧(∃z,(W.setCell ⟨g,q,none⟩ u).cell? ⟨g,t,none⟩=some z)∧(W.setCell ⟨g,q,none⟩ u).frozen? ⟨g,t,none⟩=false:=by
 obtain⟨hdr,h1,h2⟩:=h.tb.hd (by omega)
 have h3:=blk_set h1 q u
 refine⟨h.tb.keepH h.gm (by decide) (by omega) q u,?_,blk_frozen h3 t⟩
 rw[blk_cell h3]
 have l1:t<hdr.size:=(Array.getElem?_eq_some_iff.1 (h2 t ht)).1
 exact⟨_,Array.getElem?_eq_getElem (by simpa using l1)⟩
end
end RI
set_option maxHeartbeats 8000000 in
set_option maxRecDepth 100000 in
theorem reduce_calls (hF:Fit n m M0) (hm:m≤8) (hmi:mi=(m:Int)) (hA:0<n→A=some ⟨g,0,none⟩)
 (hT:TB 26 2 w0.heap.size g n (m+1) (m+1) b cc M0 W) (hM:W.heap[gm]? =some (.cells #[.slice A n cap,.int .i64 mi] 137 (0,0))) (hB:Below w0.heap.size w0 W):
 Calls Try.prog 90 #[.pointer (some ⟨gm,0,none⟩)] W (RedPost w0 gm g n m cap mi A M0):=by
 have H0:=Aside0.mk (And.intro hF (And.intro hm (And.intro hmi hA)))
 have HT:=Aside0.mk (And.intro hT (And.intro hM hB))
 clear hF hm hmi hA hT hM hB
 go_enter Try.func90,Try.ntmps90
 go_wp2_with (fail)
 go_loopg [4,5,6,7] (m+1) (fun kq v4 v5 v6 v7 w'=>∃(c:Nat) (ci ti d:Int) (pv:List Int) (b cc:Nat→Nat),v5= .int .i64 d∧v6= .int .i64 ti∧v7= .int .i64 ci∧Aside0 (ci=(c:Int)∧ti=((El n M0 c).t:Int)∧d=(El n M0 c).d∧c+kq=m+1∧1≤kq)∧Aside0 (RI w0 gm g n m cap mi A (El n M0 c).M v4 pv b cc w'∧pv.length=(El n M0 c).t))
 case atStart=>
  refine⟨0,0,0,1,[],b,cc,rfl,rfl,rfl,⟨rfl,rfl,rfl,by omega,by omega⟩,⟨⟨HT.out.1.alloc _,blk_alloc HT.out.2.1 _,?_,below_alloc HT.out.2.2 _⟩,rfl⟩⟩
  exact lit_R (Kd.int .i64) W 3 w0.heap.size (xs:=[]) (inner:=[]) (fun _ _ _=>Reps.none _ _) HT.out.2.2.size (by simp)
 case round=>
  obtain⟨c,ci,ti,d,pv,b,cc,rfl,rfl,rfl,HA,HI⟩:=hrel
  obtain⟨gq,rfl⟩: ∃k,gk=k+1:=⟨gk - 1,by have:=HA.out;omega⟩
  obtain⟨Av,cv,hvs⟩:=Kd.R_slice HI.out.1.pv
  subst hvs
  have f0:=blk_cell HI.out.1.gm 0
  have f1:=blk_cell HI.out.1.gm 1
  simp only[List.getElem?_toArray,List.getElem?_cons_zero,List.getElem?_cons_succ]at f0 f1
  by_cases c1:ci<mi∧ti<(n:Int)
  ·have aM:0<n:=by have:=HA.out;omega
   obtain rfl:=H0.out.2.2.2 aM
   have bJ:=Aside0.mk aM
   have c1b:=decide_eq_true c1.1
   have c2b:=decide_eq_true c1.2
   have C1:=Aside0.mk (show c<m∧(El n M0 c).t<n from by have:=HA.out;have:=H0.out.2.2.1;omega)
   clear c1 aM
   obtain⟨ml,hml⟩: ∃ml,ml=m+1:=⟨_,rfl⟩
   obtain⟨t,ht⟩: ∃t,t=(El n M0 c).t:=⟨_,rfl⟩
   obtain⟨X,hX⟩: ∃X,X=(El n M0 c).M:=⟨_,rfl⟩
   obtain⟨f,hf⟩: ∃f,f=fnd X c (n - t) t:=⟨_,rfl⟩
   have HF:=Aside0.mk (show(t=(El n M0 c).t∧X=(El n M0 c).M∧ml=m+1)∧(f=fnd X c (n - t) t)∧(t≤f∧f≤n)∧(∀k,t≤k→k<f→X k c=0)∧(f<n→X f c≠0)from by
    have h1:=fnd_le X c (n - t) t
    have h2:=H0.out.1.tn c (by have:=C1.out;omega)
    refine⟨⟨ht,hX,hml⟩,hf,by omega,fun k h3 h4=>fnd_zero X c (n - t) t k h3 (by omega),fun h3=>?_⟩
    have:=fnd_ne X c (n - t) t (by omega)
    rw[← hf]at this;exact this)
   have aH:=Aside0.mk (show RI w0 gm g n m cap mi (some ⟨g,0,none⟩) X (.slice Av pv.length cv) pv b cc wr∧pv.length=t from by rw[hX,ht];exact HI.out)
   clear HI ht hX hf hml
   go_wp2_with (fail)
   go_loopg [8] (n+1 - t) (fun kq v8 w'=>∃(q:Nat) (qi:Int),v8= .int .i64 qi∧Aside0 (qi=(q:Int)∧t≤q∧q≤f∧q+kq=n+1∧1≤kq)∧Aside0 (RI w0 gm g n m cap mi (some ⟨g,0,none⟩) X (.slice Av pv.length cv) pv b cc w'))
   case atStart=>
    refine⟨t,ti,rfl,⟨?_,Nat.le_refl _,HF.out.2.2.1.1,?_,?_⟩,⟨aH.out.1⟩⟩
    ·have:=HA.out;have:=HF.out.1;omega
    ·have:=HF.out;omega
    ·have:=HF.out;omega
   case round=>
    obtain⟨q,qi,rfl,HQ,HJ⟩:=hrel
    obtain⟨gr,rfl⟩: ∃k,gk=k+1:=⟨gk - 1,by have:=HQ.out;omega⟩
    clear f0 f1
    have f0:=blk_cell HJ.out.gm 0
    have f1:=blk_cell HJ.out.gm 1
    simp only[List.getElem?_toArray,List.getElem?_cons_zero,List.getElem?_cons_succ]at f0 f1
    have aD:qi.toNat=q:=by have:=HQ.out;omega
    have aV:ci.toNat=c:=by have:=HA.out;omega
    have aA:=Aside0.mk (And.intro aD aV)
    clear aD aV
    by_cases c3:q<f
    ·have d1:decide (qi<(n:Int))=true:=decide_eq_true (by have:=HQ.out;have:=HF.out.2.2.1;omega)
     have g0:wr.cell? ⟨g,qi.toNat,none⟩=some (.slice (some ⟨b q,0,none⟩) ml (cc q)):=by rw[aA.out.1,HF.out.1.2.2];exact HJ.out.tb.head (by have:=HF.out.2.2.1;omega)
     have g1:wr.cell? ⟨b q,ci.toNat,none⟩=some (.int .i64 0):=by rw[aA.out.2,← HF.out.2.2.2.1 q HQ.out.2.1 c3];exact HJ.out.tb.num (by have:=HF.out.2.2.1;omega) (by have:=C1.out;omega)
     have p1:(0≤qi)=True:=eq_true (by have:=HQ.out;omega)
     have p2:(qi<(n:Int))=True:=eq_true (by have:=HQ.out;have:=HF.out.2.2.1;omega)
     have p3:(0≤ci)=True:=eq_true (by have:=HA.out;omega)
     have p4:(ci<(ml:Int))=True:=eq_true (by have:=HA.out;have:=C1.out;have:=HF.out.1;omega)
     have C3:=Aside0.mk c3
     clear c3
     go_wp2_with (fail)
     go_roundg gr
     case measure=>omega
     case rel=>
      have h1:=HQ.out;have h2:=HF.out.2.2.1;have h3:=C3.out;have h4:=H0.out.1.n6
      have hw:=wrap_id (qi+1) (by omega) (by omega)
      exact⟨q+1,qi+1,by rw[hw],⟨by omega,by omega,by omega,by omega,by omega⟩,HJ⟩
    ·have C3:=Aside0.mk (show q=f from by have:=HQ.out;omega)
     clear c3
     by_cases c4:f=n
     ·have d1:decide (qi<(n:Int))=false:=decide_eq_false (by have:=HQ.out;have:=C3.out;omega)
      have b1:(qi == (n:Int))=true:=beq_iff_eq.mpr (by have:=HQ.out;have:=C3.out;omega)
      have C4:=Aside0.mk c4
      clear c4
      go_wp2_with (fail)
      go_roundg gq
      case measure=>omega
      case rel=>
       have h1:=HA.out;have h2:=C1.out;have h3:=H0.out.2.1
       have hw:=wrap_id (ci+1) (by omega) (by omega)
       have hs:=El_skip n M0 c (by rw[← HF.out.1.2.1,← HF.out.1.1,← HF.out.2.1];exact C4.out)
       have hR:=HJ.out
       have hl:=aH.out.2
       rw[HF.out.1.2.1,← hs.2.2]at hR
       rw[HF.out.1.1,← hs.2.1]at hl
       exact⟨c+1,ci+1,ti,d,pv,b,cc,rfl,rfl,by rw[hw],⟨by omega,by rw[hs.2.1];omega,by rw[hs.1];exact h1.2.2.1,by omega,by omega⟩,⟨hR,hl⟩⟩
     ·have hfn:f<n:=by have:=HF.out.2.2.1;omega
      have htn:t<n:=by have:=HF.out.2.2.1;omega
      obtain⟨x,hx⟩: ∃x,x=X f c:=⟨_,rfl⟩
      have aK:x≠0:=by rw[hx];exact HF.out.2.2.2.2 hfn
      have aW:ti.toNat=t:=by have:=HA.out;have:=HF.out.1.1;omega
      have HP:=Aside0.mk (And.intro hfn (And.intro htn (And.intro hx (And.intro aK aW))))
      have d1:decide (qi<(n:Int))=true:=decide_eq_true (by have:=HQ.out;have:=C3.out;omega)
      have b1:(qi == (n:Int))=false:=beq_eq_false_iff_ne.mpr (by have:=HQ.out;have:=C3.out;omega)
      have b2:(x == 0)=false:=beq_eq_false_iff_ne.mpr aK
      clear c4 hfn htn hx aK aW
      have g0:wr.cell? ⟨g,qi.toNat,none⟩=some (.slice (some ⟨b f,0,none⟩) ml (cc f)):=by rw[aA.out.1,C3.out,HF.out.1.2.2];exact HJ.out.tb.head HP.out.1
      have g1:wr.cell? ⟨b f,ci.toNat,none⟩=some (.int .i64 x):=by rw[aA.out.2,HP.out.2.2.1];exact HJ.out.tb.num HP.out.1 (by have:=C1.out;omega)
      have g2:wr.cell? ⟨g,ti.toNat,none⟩=some (.slice (some ⟨b t,0,none⟩) ml (cc t)):=by rw[HP.out.2.2.2.2,HF.out.1.2.2];exact HJ.out.tb.head HP.out.2.1
      have p1:(0≤qi)=True:=eq_true (by have:=HQ.out;omega)
      have p2:(qi<(n:Int))=True:=eq_true (by have:=HQ.out;have:=C3.out;have:=HP.out.1;omega)
      have p3:(0≤ci)=True:=eq_true (by have:=HA.out;omega)
      have p4:(ci<(ml:Int))=True:=eq_true (by have:=HA.out;have:=C1.out;have:=HF.out.1;omega)
      have p5:(0≤ti)=True:=eq_true (by have:=HA.out;omega)
      have p6:(ti<(n:Int))=True:=eq_true (by have:=HA.out;have:=C1.out;omega)
      go_upto_region 12 with (fail)
      refine wp_region_still_tail 12 (by kernel_rfl) (by kernel_rfl) ?_
      simp only[List.take_succ_cons,List.take_zero,List.drop_succ_cons,List.drop_zero]
      change wpStill _ _ (World.drew _) _ _ _
      repeat still_step
      refine wpStill_nil ?_
      change wpList _ _ _ _ _ (World.drew wr)
      obtain⟨w3,HW⟩: ∃w3,Aside0 (w3=wr.drew):=⟨_,⟨rfl⟩⟩
      rw[← HW.out]
      have aG:=Aside0.mk (show RI w0 gm g n m cap mi (some ⟨g,0,none⟩) X (.slice Av pv.length cv) pv b cc w3 from HW.out▸HJ.out.drew)
      clear HW HJ f0 f1 g0 g1 g2
      have z0:=aG.out.tb.headZ (i:=f) HP.out.1 qi.toNat
      have g0:w3.cell? ⟨g,qi.toNat,none⟩=some (.slice (some ⟨b f,0,none⟩) ml (cc f)):=by rw[aA.out.1,C3.out,HF.out.1.2.2];exact aG.out.tb.head HP.out.1
      go_upto_region 13 with (fail)
      obtain⟨w4,HW⟩: ∃w4,Aside0 (w4=w3.setCell ⟨g,qi.toNat,none⟩ (.slice (some ⟨b t,0,none⟩) ml (cc t))):=⟨_,⟨rfl⟩⟩
      rw[← HW.out]
      have hmid:=aG.out.mid (t:=t) (q:=qi.toNat) HP.out.2.1 (.slice (some ⟨b t,0,none⟩) ml (cc t))
      rw[← HW.out,← HP.out.2.2.2.2]at hmid
      obtain⟨aX,⟨zold,g2⟩,z1⟩:=hmid
      clear z0 g0
      have f0:=blk_cell aX 0
      simp only[List.getElem?_toArray,List.getElem?_cons_zero,List.getElem?_cons_succ]at f0
      clear aX
      go_upto_region 14 with (fail)
      obtain⟨w5,aN⟩: ∃w5,Aside0 (w5=w4.setCell ⟨g,ti.toNat,none⟩ (.slice (some ⟨b f,0,none⟩) ml (cc f))):=⟨_,⟨rfl⟩⟩
      rw[← aN.out]
      obtain⟨b',hb'⟩: ∃b',b'=swp b t f:=⟨_,rfl⟩
      obtain⟨cc',hcc'⟩: ∃b',b'=swp cc t f:=⟨_,rfl⟩
      obtain⟨X',hX'⟩: ∃b',b'=swp X t f:=⟨_,rfl⟩
      obtain⟨br,hbr⟩: ∃br,br=b f:=⟨_,rfl⟩
      obtain⟨cr,hcr⟩: ∃cr,cr=cc f:=⟨_,rfl⟩
      have aT:=Aside0.mk (show RI w0 gm g n m cap mi (some ⟨g,0,none⟩) X' (.slice Av pv.length cv) pv b' cc' w5 from by
       rw[aN.out,HW.out,HP.out.2.2.2.2,aA.out.1,C3.out,hb',hcc',hX',HF.out.1.2.2]
       exact aG.out.swap HP.out.2.1 HP.out.1)
      obtain⟨N,hN⟩: ∃N,N=(El n M0 (c+1)).M:=⟨_,rfl⟩
      have HS:=Aside0.mk (show(br=b' t∧cr=cc' t)∧(∀j,X' t j=X f j)∧(∀j,N t j=X' t j)∧(∀i j,i<n→j≤m→i≠t→X' i j*x - X' i c*X' t j=d*N i j)∧N=(El n M0 (c+1)).M∧(El n M0 (c+1)).d=x∧(El n M0 (c+1)).t=t+1 from by
       have hfe:fnd (El n M0 c).M c (n - (El n M0 c).t) (El n M0 c).t=f:=by rw[← HF.out.1.2.1,← HF.out.1.1];exact HF.out.2.1.symm
       have hpv:=El_piv n M0 c (by rw[hfe];exact Nat.ne_of_lt HP.out.1)
       rw[hfe,← HF.out.1.2.1,← HF.out.1.1,← hN]at hpv
       refine⟨⟨by rw[hbr,hb',swp_fst],by rw[hcr,hcc',swp_fst]⟩,fun j=>by rw[hX',swp_fst],fun j=>by rw[hX',swp_fst];exact hpv.2.2 j,fun i j hi hj hit=>?_,hN,by rw[hpv.1];exact HP.out.2.2.1.symm,hpv.2.1⟩
       have hex:=H0.out.1.ex c i j (by have:=C1.out;omega) (by rw[hfe];exact Nat.ne_of_lt HP.out.1) hi hj (by rw[← HF.out.1.1];exact hit)
       rw[hfe,← HF.out.1.2.1,← HF.out.1.1,← hN,← hX',← HA.out.2.2.1]at hex
       rw[← hex,HP.out.2.2.1]
       rw[show X' t c=X f c by rw[hX',swp_fst]])
      rw[← hbr,← hcr]
      have HX:=Aside0.mk hX'
      clear aN HW aG z1 g2 f0 hb' hcc' hX' hN hbr hcr
      have g1:w5.cell? ⟨br,ci.toNat,none⟩=some (.int .i64 x):=by
       rw[HS.out.1.1,aA.out.2,HP.out.2.2.1,← HS.out.2.1 c];exact aT.out.tb.num HP.out.2.1 (by have:=C1.out;omega)
      go_wp2_with (fail)
      go_loopg [11] (n+1) (fun kq bB w'=>∃(i:Nat) (ii:Int),bB= .int .i64 ii∧Aside0 (ii=(i:Int)∧i+kq=n+1∧1≤kq)∧Aside0 (RI w0 gm g n m cap mi (some ⟨g,0,none⟩) (fun i' j=>if i'<i then N i' j else X' i' j) (.slice Av pv.length cv) pv b' cc' w'))
      case atStart=>exact⟨0,0,rfl,⟨rfl,by omega,by omega⟩,⟨aT.out.congr (fun i' j _ _=>by rw[if_neg (Nat.not_lt_zero _)])⟩⟩
      case round=>
       obtain⟨i,ii,rfl,HR,HK⟩:=hrel
       obtain⟨gs,rfl⟩: ∃k,gk=k+1:=⟨gk - 1,by have:=HR.out;omega⟩
       clear g1
       have f0:=blk_cell HK.out.gm 0
       have f1:=blk_cell HK.out.gm 1
       simp only[List.getElem?_toArray,List.getElem?_cons_zero,List.getElem?_cons_succ]at f0 f1
       have aZ:ii.toNat=i:=by have:=HR.out;omega
       have aR:=Aside0.mk aZ
       clear aZ
       by_cases c5:i<n
       ·have d1:decide (ii<(n:Int))=true:=decide_eq_true (by have:=HR.out;omega)
        by_cases c6:i=t
        ·have b1:(ii == ti)=true:=beq_iff_eq.mpr (by have:=HR.out;have:=HA.out;have:=HF.out.1.1;omega)
         have C6:=Aside0.mk (And.intro c5 c6)
         clear c5 c6
         go_wp2_with (fail)
         go_roundg gs
         case measure=>omega
         case rel=>
          have h1:=HR.out;have h2:=C6.out;have h4:=H0.out.1.n6
          have hw:=wrap_id (ii+1) (by omega) (by omega)
          refine⟨i+1,ii+1,by rw[hw],⟨by omega,by omega,by omega⟩,⟨HK.out.congr (fun i' j _ _=>?_)⟩⟩
          by_cases e:i'=t
          ·subst e
           rw[if_neg (by omega),if_pos (by omega),HS.out.2.2.1]
          ·by_cases e2:i'<i
           ·rw[if_pos e2,if_pos (by omega)]
           ·rw[if_neg e2,if_neg (by omega)]
        ·have b1:(ii == ti)=false:=beq_eq_false_iff_ne.mpr (by have:=HR.out;have:=HA.out;have:=HF.out.1.1;omega)
         obtain⟨q0,aD⟩: ∃q0,q0=X' i c:=⟨_,rfl⟩
         have C6:=Aside0.mk (And.intro c5 (And.intro c6 aD))
         clear c5 c6 aD
         have g0:wr.cell? ⟨g,ii.toNat,none⟩=some (.slice (some ⟨b' i,0,none⟩) ml (cc' i)):=by rw[aR.out,HF.out.1.2.2];exact HK.out.tb.head C6.out.1
         have g1:wr.cell? ⟨b' i,ci.toNat,none⟩=some (.int .i64 q0):=by
          have h:=HK.out.tb.num (i:=i) (j:=c) C6.out.1 (by have:=C1.out;omega)
          rw[if_neg (Nat.lt_irrefl _),← C6.out.2.2]at h
          rw[aA.out.2];exact h
         have p1:(0≤ii)=True:=eq_true (by have:=HR.out;omega)
         have p2:(ii<(n:Int))=True:=eq_true (by have:=HR.out;have:=C6.out;omega)
         go_wp2_with (fail)
         go_loopg [13] (m+2) (fun kq bF w'=>∃(j:Nat) (jj:Int),bF= .int .i64 jj∧Aside0 (jj=(j:Int)∧j+kq=m+2∧1≤kq)∧Aside0 (RI w0 gm g n m cap mi (some ⟨g,0,none⟩) (fun i' j'=>if i'<i∨(i'=i∧j'<j)then N i' j' else X' i' j') (.slice Av pv.length cv) pv b' cc' w'))
         case atStart=>
          refine⟨0,0,rfl,⟨rfl,by omega,by omega⟩,⟨HK.out.congr (fun i' j _ _=>?_)⟩⟩
          by_cases e:i'<i
          ·rw[if_pos e,if_pos (.inl e)]
          ·rw[if_neg e,if_neg (by omega)]
         case round=>
          obtain⟨j,jj,rfl,HD,HL⟩:=hrel
          obtain⟨gt,rfl⟩: ∃k,gk=k+1:=⟨gk - 1,by have:=HD.out;omega⟩
          clear f0 f1 g0 g1
          have f0:=blk_cell HL.out.gm 0
          have f1:=blk_cell HL.out.gm 1
          simp only[List.getElem?_toArray,List.getElem?_cons_zero,List.getElem?_cons_succ]at f0 f1
          have aU:jj.toNat=j:=by have:=HD.out;omega
          have aI:=Aside0.mk aU
          clear aU
          by_cases c7:j≤m
          ·have d2:decide (jj≤mi)=true:=decide_eq_true (by have:=HD.out;have:=H0.out.2.2.1;omega)
           obtain⟨y0,bA⟩: ∃q0,q0=X' i j:=⟨_,rfl⟩
           obtain⟨z0,aY⟩: ∃q0,q0=X' t j:=⟨_,rfl⟩
           have C7:=Aside0.mk (And.intro c7 (And.intro bA aY))
           clear c7 bA aY
           have g0:wr.cell? ⟨g,ii.toNat,none⟩=some (.slice (some ⟨b' i,0,none⟩) ml (cc' i)):=by rw[aR.out,HF.out.1.2.2];exact HL.out.tb.head C6.out.1
           have g1:wr.cell? ⟨b' i,jj.toNat,none⟩=some (.int .i64 y0):=by
            have h:=HL.out.tb.num (i:=i) (j:=j) C6.out.1 (by have:=C7.out;omega)
            rw[if_neg (by omega),← C7.out.2.1]at h
            rw[aI.out];exact h
           have g2:wr.cell? ⟨br,jj.toNat,none⟩=some (.int .i64 z0):=by
            have h:=HL.out.tb.num (i:=t) (j:=j) HP.out.2.1 (by have:=C7.out;omega)
            have e:(if t<i∨(t=i∧j<j)then N t j else X' t j)=z0:=by
             rw[C7.out.2.2]
             split
             ·exact HS.out.2.2.1 j
             ·rfl
            rw[e]at h
            rw[aI.out,HS.out.1.1];exact h
           have p7:(0≤jj)=True:=eq_true (by have:=HD.out;omega)
           have p8:(jj<(ml:Int))=True:=eq_true (by have:=HD.out;have:=C7.out.1;have:=HF.out.1;omega)
           have bG:(d=0)=False:=eq_false (by rw[HA.out.2.2.1];exact H0.out.1.d0 c (by have:=C1.out;omega))
           have bD:(d == 0)=false:=beq_eq_false_iff_ne.mpr (by rw[HA.out.2.2.1];exact H0.out.1.d0 c (by have:=C1.out;omega))
           go_upto_region 23 with (fail)
           refine wp_region_still_tail 29 (by kernel_rfl) (by kernel_rfl) ?_
           simp only[List.take_succ_cons,List.take_zero,List.drop_succ_cons,List.drop_zero]
           change wpStill _ _ (World.drew _) _ _ _
           repeat still_step
           refine wpStill_nil ?_
           change wpList _ _ _ _ _ (World.drew wr)
           obtain⟨w6,HW⟩: ∃w6,Aside0 (w6=wr.drew):=⟨_,⟨rfl⟩⟩
           rw[← HW.out]
           have aJ:=Aside0.mk (show RI w0 gm g n m cap mi (some ⟨g,0,none⟩) (fun i' j'=>if i'<i∨(i'=i∧j'<j)then N i' j' else X' i' j') (.slice Av pv.length cv) pv b' cc' w6 from HW.out▸HL.out.drew)
           clear HW HL f0 f1 g0 g1 g2 bG bD
           have zz:=aJ.out.tb.numZ (i:=i) C6.out.1 jj.toNat
           have g1:w6.cell? ⟨b' i,jj.toNat,none⟩=some (.int .i64 y0):=by
            have h:=aJ.out.tb.num (i:=i) (j:=j) C6.out.1 (by have:=C7.out;omega)
            rw[if_neg (by omega),← C7.out.2.1]at h
            rw[aI.out];exact h
           go_upto_region 22 with (fail)
           obtain⟨vv,hvv⟩: ∃vv,vv=wrap64 ((wrap64 (wrap64 (y0*x) - wrap64 (q0*z0))).tdiv d):=⟨_,rfl⟩
           rw[← hvv]
           have HV:=Aside0.mk (show vv=N i j from by
            have hcm:=C1.out.1
            have key: ∀i' j',i'<n→j'≤m→(X' i' j').natAbs≤4478976000:=by
             intro i' j' hi' hj'
             obtain⟨k,hk,e⟩:=swp_cases X t f i'
             have aQ:k<n:=by have:=HP.out.1;have:=HP.out.2.1;omega
             have:=HS.out.2.2.2.2.2.2
             have e2:X' i' j'=X k j':=by rw[HX.out,e]
             rw[e2,HF.out.1.2.1];exact H0.out.1.lB c k j' (by omega) aQ hj'
            have aC: ∀i',i'<n→(X' i' c).natAbs≤268738560:=by
             intro i' hi'
             obtain⟨k,hk,e⟩:=swp_cases X t f i'
             have aQ:k<n:=by have:=HP.out.1;have:=HP.out.2.1;omega
             have e2:X' i' c=X k c:=by rw[HX.out,e]
             rw[e2,HF.out.1.2.1];exact H0.out.1.mB c k c (by omega) aQ hcm
            have bx:x.natAbs≤268738560:=by rw[HP.out.2.2.1,← HS.out.2.1 c];exact aC t HP.out.2.1
            have bE:y0.natAbs≤4478976000:=by rw[C7.out.2.1];exact key i j C6.out.1 C7.out.1
            have bz:z0.natAbs≤4478976000:=by rw[C7.out.2.2];exact key t j HP.out.2.1 C7.out.1
            have bq:q0.natAbs≤268738560:=by rw[C6.out.2.2];exact aC i C6.out.1
            have m1:(y0*x).natAbs≤1203673560514560000:=Nat.le_trans (mul_abs bE bx) (by decide)
            have m2:(q0*z0).natAbs≤1203673560514560000:=Nat.le_trans (mul_abs bq bz) (by decide)
            have hex:=HS.out.2.2.2.1 i j C6.out.1 C7.out.1 C6.out.2.1
            rw[← C7.out.2.1,← C7.out.2.2,← C6.out.2.2]at hex
            have hd:=H0.out.1.d0 c (by omega)
            rw[← HA.out.2.2.1]at hd
            have bn:(N i j).natAbs≤4478976000:=by rw[HS.out.2.2.2.2.1];exact H0.out.1.lB (c+1) i j (by omega) C6.out.1 C7.out.1
            rw[hvv,wrap_id (y0*x) (by omega) (by omega),wrap_id (q0*z0) (by omega) (by omega),wrap_id (y0*x - q0*z0) (by omega) (by omega),hex,Int.mul_tdiv_cancel_left _ hd,wrap_id _ (by omega) (by omega)])
           clear hvv
           obtain⟨w7,HW⟩: ∃w7,Aside0 (w7=w6.setCell ⟨b' i,jj.toNat,none⟩ (.int .i64 vv)):=⟨_,⟨rfl⟩⟩
           rw[← HW.out]
           have bC:=Aside0.mk (show RI w0 gm g n m cap mi (some ⟨g,0,none⟩) (fun i' j'=>if i'<i∨(i'=i∧j'<j+1)then N i' j' else X' i' j') (.slice Av pv.length cv) pv b' cc' w7 from by
            rw[HW.out]
            refine(aJ.out.put C6.out.1 vv).congr (fun i' j' _ _=>?_)
            rw[aI.out]
            by_cases e:i'=i∧j'=j
            ·rw[if_pos e,if_pos (.inr ⟨e.1,by omega⟩),e.1,e.2];exact HV.out
            ·rw[if_neg e]
             by_cases e2:i'<i∨(i'=i∧j'<j)
             ·rw[if_pos e2,if_pos (by omega)]
             ·rw[if_neg e2,if_neg (by omega)])
           clear HW aJ zz g1
           go_wp2_with (fail)
           go_roundg gt
           case measure=>omega
           case rel=>
            have h1:=HD.out;have h2:=C7.out.1;have h3:=H0.out.2.1
            have hw:=wrap_id (jj+1) (by omega) (by omega)
            exact⟨j+1,jj+1,by rw[hw],⟨by omega,by omega,by omega⟩,bC⟩
          ·have d2:decide (jj≤mi)=false:=decide_eq_false (by have:=HD.out;have:=H0.out.2.2.1;omega)
           have C7:=Aside0.mk (show j=m+1 from by have:=HD.out;omega)
           clear c7
           go_wp2_with (fail)
           go_roundg gs
           case measure=>omega
           case rel=>
            have h1:=HR.out;have h2:=C6.out;have h4:=H0.out.1.n6
            have hw:=wrap_id (ii+1) (by omega) (by omega)
            refine⟨i+1,ii+1,by rw[hw],⟨by omega,by omega,by omega⟩,⟨HL.out.congr (fun i' j' _ hj'=>?_)⟩⟩
            have:=C7.out
            by_cases e2:i'<i∨(i'=i∧j'<j)
            ·rw[if_pos e2,if_pos (by omega)]
            ·rw[if_neg e2,if_neg (by omega)]
       ·have d1:decide (ii<(n:Int))=false:=decide_eq_false (by have:=HR.out;omega)
        have C5:=Aside0.mk (show i=n from by have:=HR.out;omega)
        clear c5
        have aE:=Aside0.mk (show RI w0 gm g n m cap mi (some ⟨g,0,none⟩) N (.slice Av pv.length cv) pv b' cc' wr from HK.out.congr (fun i' j' hi' _=>by rw[if_pos (by have:=C5.out;omega)]))
        clear HK
        go_upto_region 25 with (at_builtin;refine Kd.R_append (Kd.int .i64) (w0:=w0) w0.heap.size rfl (.tmp 153) (.tmp 155) 122 3 (.int .i64 0) 8 rfl Try.underlying122 info3 rfl (by decide) (by omega) (.slice Av pv.length cv) pv ci [.int .i64 ci] (fun _=>True) (fun _=>False) rfl (by first|(go_simp;done)|(go_simp;rfl)) ?aP (fun _ hk=>hk.elim) ?aF ?aO ?aB ?aS ?aL ?_;(case aP=>exact rfl);(case aF=>exact fun _ _=>trivial);(case aO=>exact aE.out.pv);(case aB=>exact aE.out.bw);(case aS=>exact aE.out.bw.size);(case aL=>have:=aH.out.2;have:=C1.out;have:=HF.out.1.1;have:=H0.out.1.n6;omega);intro v1 w8 ho hb hg hat;obtain⟨A1,c1,rfl⟩:=Kd.R_slice ho;have HAP:=Aside0.mk (And.intro ho (And.intro hb (And.intro hg hat)));clear ho hb hg hat f0 f1)
        have bI:=Aside0.mk (show RI w0 gm g n m cap mi (some ⟨g,0,none⟩) N (.slice A1 (pv.length+1) c1) (pv ++ [ci]) b' cc' w8 from by
         have h:=aE.out.push HAP.out.1 HAP.out.2.1 HAP.out.2.2.1
         have e:(pv ++ [ci]).length=pv.length+1:=by simp
         rw[e]at h;exact h)
        clear aE HAP
        go_wp2_with (fail)
        go_roundg gq
        case measure=>omega
        case rel=>
         have h1:=HA.out;have h2:=C1.out;have h3:=H0.out.2.1;have h4:=H0.out.1.n6;have h5:=HS.out.2.2.2.2.2;have h6:=aH.out.2;have h7:=HF.out.1
         have hw:=wrap_id (ci+1) (by omega) (by omega)
         have bH:=wrap_id (ti+1) (by omega) (by omega)
         have hR:=bI.out
         rw[HS.out.2.2.2.2.1]at hR
         exact⟨c+1,ci+1,ti+1,x,pv ++ [ci],b',cc',rfl,by rw[bH],by rw[hw],⟨by omega,by omega,h5.1.symm,by omega,by omega⟩,⟨hR,by simp;omega⟩⟩
  ·have hEl:(El n M0 m).M=(El n M0 c).M∧(El n M0 m).d=(El n M0 c).d∧(El n M0 m).t=(El n M0 c).t:=by
    have h1:=HA.out;have h2:=H0.out.2.2.1
    by_cases e:c=m
    ·rw[e];exact⟨rfl,rfl,rfl⟩
    ·have h3:=H0.out.1.tn c (by omega)
     have hs:=El_stop n M0 (c:=c) (by omega) (m - c)
     rw[show c+(m - c)=m by omega]at hs
     exact⟨hs.1,hs.2.1,by rw[hs.2.2];omega⟩
   have HE:=Aside0.mk hEl
   have c2: ¬ci<mi∨ci<mi∧ ¬ti<(n:Int):=by omega
   clear hEl c1
   rcases c2 with c2|⟨c2,c3⟩
   all_goals
    first
     |(have c1b:=decide_eq_true c2;have c2b:=decide_eq_false c3;clear c2 c3)
     |(have c1b:=decide_eq_false c2;clear c2)
    go_wp2_with (fail)
    go_ret2
    refine⟨.slice Av pv.length cv,pv,?_,HI.out.1.pv,by rw[HE.out.2.2];exact HI.out.2,⟨b,cc,by rw[HE.out.1];exact HI.out.1.tb⟩,HI.out.1.gm,HI.out.1.bw⟩
    rw[HE.out.2.1,← HA.out.2.2.1]
    rfl
end
end Go.Proofs.Ytebbdadpgapobaa.Red
