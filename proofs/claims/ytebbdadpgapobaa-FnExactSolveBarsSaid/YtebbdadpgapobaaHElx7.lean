-- Written by a program for this claim (the functions that the statement reaches, and that the program's code comes to them).
import Derived.Test.YtebbdadpgapobaaHElx0
import Derived.Test.YtebbdadpgapobaaHElx5
import Derived.Test.YtebbdadpgapobaaHElx6
namespace Go.Proofs.Ytebbdadpgapobaa.HEl
open Go.RowKit Go.Proofs.YtebbdadpgapobaaW.PrintWords Go.Proofs.YtebbdadpgapobaaW.PrintLast Go.Proofs.YtebbdadpgapobaaW.PrintMore
attribute [local go_sem] max2_int min2_int max_two min_two max_three min_three max_four min_four
set_option linter.unusedVariables false
set_option linter.unusedSimpArgs false
/-! ### impl_reduceRows: function 93 (by hand) -/
def impl_reduceRows.f:Option Bool:=none
section
open Go.Proofs.Ytebbdadpgapobaa.Lib Go.Proofs.Ytebbdadpgapobaa.Elim
theorem mulFr_ev (a b:Rat) (ha: -9223372036854775807≤a.num) (ha':a.num≤9223372036854775807) (hb: -9223372036854775807≤b.num) (hb':b.num≤9223372036854775807)
 (hda:(a.den:Int)≤9223372036854775807) (hdb:(b.den:Int)≤9223372036854775807)
 (h1: -9223372036854775807≤(a*b).num) (h2:(a*b).num≤9223372036854775807) (h3:((a*b).den:Int)≤9223372036854775807):
 Ev (fun k=>impl_mulFractions.f k a.num a.den b.num b.den) (fr (a*b)):=by
 have pa:=den_pos a
 have pb:=den_pos b
 have e1:=fraction_ev a.num b.den ha ha' (by omega) hdb (by omega)
 have e2:=fraction_ev b.num a.den hb hb' (by omega) hda (by omega)
 have key:=mul_key a b
 simp only[impl_mulFractions.f]
 refine Ev.bind e1 (Ev.bind e2 (ev_some ?_))
 have k1:=congrArg Prod.fst key
 have k2:=congrArg Prod.snd key
 simp only[fr]at k1 k2 ⊢
 have pd:=den_pos (a*b)
 rw[← k1,← k2,w64 (by omega) (by omega),w64 (by omega) (by omega)]
theorem addFr_ev (a b:Rat) (D x y:Int) (hD:0<D) (hD':D≤4611686018427387903) (ha:a=(x:Rat) / (D:Rat)) (hb:b=(y:Rat) / (D:Rat))
 (hx: -4611686018427387903≤x) (hx':x≤4611686018427387903) (hy: -4611686018427387903≤y) (hy':y≤4611686018427387903):
 Ev (fun k=>impl_addFractions.f k a.num a.den b.num b.den) (fr (a+b)):=by
 have pa:=den_pos a
 have pb:=den_pos b
 have da:=den_le hD ha
 have db:=den_le hD hb
 have eg:=gcd_ev (a.den:Int) (b.den:Int) (by omega) (by omega) (by omega)
 have gp:=gcd_pos (n:=(a.den:Int)) (d:=(b.den:Int)) (by omega)
 generalize hg:(Int.gcd (a.den:Int) (b.den:Int):Int)=g at*
 obtain⟨u,hu⟩:g∣(a.den:Int):=by rw[← hg];exact Int.gcd_dvd_left _ _
 obtain⟨v,hv⟩:g∣(b.den:Int):=by rw[← hg];exact Int.gcd_dvd_right _ _
 have tu:Int.tdiv (a.den:Int) g=u:=by rw[hu];exact Int.mul_tdiv_cancel_left _ (by omega)
 have tv:Int.tdiv (b.den:Int) g=v:=by rw[hv];exact Int.mul_tdiv_cancel_left _ (by omega)
 have hup:0<u:=by
  rcases Int.lt_or_le 0 u with h|h
  ·exact h
  ·have:=Int.mul_nonpos_of_nonneg_of_nonpos (Int.le_of_lt gp) h;omega
 have hvp:0<v:=by
  rcases Int.lt_or_le 0 v with h|h
  ·exact h
  ·have:=Int.mul_nonpos_of_nonneg_of_nonpos (Int.le_of_lt gp) h;omega
 have hl:u*(b.den:Int)∣D:=by
  have h1:Int.lcm (a.den:Int) (b.den:Int)∣D.natAbs:=Nat.lcm_dvd (Int.natAbs_dvd_natAbs.2 (den_dvd (by omega) ha)) (Int.natAbs_dvd_natAbs.2 (den_dvd (by omega) hb))
  have h2:(Int.lcm (a.den:Int) (b.den:Int):Int)=u*(b.den:Int):=by
   have h3:=Int.gcd_mul_lcm (a.den:Int) (b.den:Int)
   have h4:g*(Int.lcm (a.den:Int) (b.den:Int):Int)=g*(u*(b.den:Int)):=by
    rw[← hg,← Int.natCast_mul,h3,hg,← Int.mul_assoc,← hu]
    simp[Int.natAbs_mul]
   exact Int.eq_of_mul_eq_mul_left (by omega) h4
  rw[← h2];exact Int.natAbs_dvd_natAbs.1 (by rw[Int.natAbs_natCast];exact h1)
 obtain⟨c,hc⟩:=hl
 have hlp:0<u*(b.den:Int):=Int.mul_pos hup pb
 have hcp:1≤c:=by
  rcases Int.lt_or_le 0 c with h|h
  ·omega
  ·have:=Int.mul_nonpos_of_nonneg_of_nonpos (Int.le_of_lt hlp) h;omega
 have ca:=cross (by omega) ha
 have cb:=cross (by omega) hb
 have ex:x=a.num*v*c:=by
  have h1:(a.den:Int)*x=(a.den:Int)*(a.num*v*c):=by grind
  exact Int.eq_of_mul_eq_mul_left (by omega) h1
 have ey:y=b.num*u*c:=by
  have h1:(b.den:Int)*y=(b.den:Int)*(b.num*u*c):=by grind
  exact Int.eq_of_mul_eq_mul_left (by omega) h1
 have bnd: ∀z B:Int,0≤B→ -B≤z*c→z*c≤B→ -B≤z∧z≤B:=by
  intro z B hB h1 h2
  have h3:(z*c).natAbs≤B.natAbs:=by omega
  rw[Int.natAbs_mul]at h3
  have h4:z.natAbs*1≤z.natAbs*c.natAbs:=Nat.mul_le_mul_left _ (by omega)
  omega
 have b1:=bnd (a.num*v) 4611686018427387903 (by omega) (by omega) (by omega)
 have b2:=bnd (b.num*u) 4611686018427387903 (by omega) (by omega) (by omega)
 have b3:=bnd (u*(b.den:Int)) 4611686018427387903 (by omega) (by omega) (by omega)
 have lu:u≤(a.den:Int):=by
  have:u*1≤u*g:=Int.mul_le_mul_of_nonneg_left (by omega) (by omega)
  rw[hu,Int.mul_comm g u];omega
 have lv:v≤(b.den:Int):=by
  have:v*1≤v*g:=Int.mul_le_mul_of_nonneg_left (by omega) (by omega)
  rw[hv,Int.mul_comm g v];omega
 have es:a+b=((a.num*v+b.num*u:Int):Rat) / ((u*(b.den:Int):Int):Rat):=by
  have ea:=rat_self a
  have eb:=rat_self b
  have za:=ne0 (d:=(a.den:Int)) (by omega)
  have zb:=ne0 (d:=(b.den:Int)) (by omega)
  have zu:=ne0 (d:=u) (by omega)
  have zv:=ne0 (d:=v) (by omega)
  have zg:=ne0 (d:=g) (by omega)
  have hu':((a.den:Int):Rat)=(g:Rat)*(u:Rat):=by rw[← castI,← hu]
  have hv':((b.den:Int):Rat)=(g:Rat)*(v:Rat):=by rw[← castI,← hv]
  rw[castI,Rat.intCast_add,castI,castI]
  grind
 simp only[impl_addFractions.f]
 refine Ev.bind eg (ev_neg (by omega) ?_)
 rw[tu,tv,w64 (x:=v) (by omega) (by omega),w64 (x:=u) (by omega) (by omega),w64 (x:=a.num*v) (by omega) (by omega),w64 (x:=b.num*u) (by omega) (by omega),
  w64 (x:=a.num*v+b.num*u) (by omega) (by omega),w64 (x:=u*(b.den:Int)) (by omega) (by omega)]
 refine Ev.bind (fraction_ev _ _ (by omega) (by omega) (by omega) (by omega) (by omega)) (ev_some ?_)
 rw[es]
theorem rneg (q:Rat):(-q).num= -q.num∧(-q).den=q.den:=⟨rfl,rfl⟩
structure SF (n m t c:Nat) (Qo Qn:Nat→Nat→Rat):Prop where
 inv: ∃(I:Rat) (k:Nat),impl_fraction.f k ((Qo t c).den:Int) (Qo t c).num=some (I.num,(I.den:Int))∧ ∀j,j≤m→ ∃k,impl_mulFractions.f k (Qo t j).num ((Qo t j).den:Int) I.num (I.den:Int)=some ((Qn t j).num,((Qn t j).den:Int))
 row: ∀i j,i<n→j≤m→i≠t→ ∃(s:Rat) (k k':Nat),impl_mulFractions.f k (-(Qo i c).num) ((Qo i c).den:Int) (Qn t j).num ((Qn t j).den:Int)=some (s.num,(s.den:Int))∧impl_addFractions.f k' (Qo i j).num ((Qo i j).den:Int) s.num (s.den:Int)=some ((Qn i j).num,((Qn i j).den:Int))
 zero: ∀i j,i<n→j≤m→i≠t→(Qo i c).num=0→Qn i j=Qo i j
 neg: ∀i,i<n→(Qo i c).num.natAbs≤268738560
theorem step_facts {n m:Nat} {M0:Nat→Nat→Int} (hF:Fit n m M0) {c:Nat} (hc:c<m) (hf:fnd (El n M0 c).M c (n - (El n M0 c).t) (El n M0 c).t<n):
 SF n m (El n M0 c).t c (Qr (swp (El n M0 c).M (El n M0 c).t (fnd (El n M0 c).M c (n - (El n M0 c).t) (El n M0 c).t)) (El n M0 c).d) (Qr (El n M0 (c+1)).M (El n M0 (c+1)).d):=by
 have hpv:=El_piv n M0 c (Nat.ne_of_lt hf)
 have hd:=hF.d0 c (by omega)
 have hx:=hF.d0 (c+1) (by omega)
 have bd:=hF.dB c (by omega)
 have bx:=hF.dB (c+1) (by omega)
 have hle:=fnd_le (El n M0 c).M c (n - (El n M0 c).t) (El n M0 c).t
 have hex: ∀i j,i<n→j≤m→i≠(El n M0 c).t→_:=fun i j hi hj hit=>hF.ex c i j hc (Nat.ne_of_lt hf) hi hj hit
 have bX: ∀i j,i<n→j≤m→(swp (El n M0 c).M (El n M0 c).t (fnd (El n M0 c).M c (n - (El n M0 c).t) (El n M0 c).t) i j).natAbs≤4478976000:=by
  intro i j hi hj
  obtain⟨k,hk,e⟩:=swp_cases (El n M0 c).M (El n M0 c).t (fnd (El n M0 c).M c (n - (El n M0 c).t) (El n M0 c).t) i
  rw[e];exact hF.lB c k j (by omega) (by omega) hj
 have bC: ∀i,i<n→(swp (El n M0 c).M (El n M0 c).t (fnd (El n M0 c).M c (n - (El n M0 c).t) (El n M0 c).t) i c).natAbs≤268738560:=by
  intro i hi
  obtain⟨k,hk,e⟩:=swp_cases (El n M0 c).M (El n M0 c).t (fnd (El n M0 c).M c (n - (El n M0 c).t) (El n M0 c).t) i
  rw[e];exact hF.mB c k c (by omega) (by omega) hc
 have bN: ∀i j,i<n→j≤m→((El n M0 (c+1)).M i j).natAbs≤4478976000:=fun i j hi hj=>hF.lB (c+1) i j (by omega) hi hj
 have eN: ∀j,(El n M0 (c+1)).M (El n M0 c).t j=swp (El n M0 c).M (El n M0 c).t (fnd (El n M0 c).M c (n - (El n M0 c).t) (El n M0 c).t) (El n M0 c).t j:=fun j=>by rw[swp_fst];exact hpv.2.2 j
 have ex:(El n M0 (c+1)).d=swp (El n M0 c).M (El n M0 c).t (fnd (El n M0 c).M c (n - (El n M0 c).t) (El n M0 c).t) (El n M0 c).t c:=by rw[swp_fst];exact hpv.1
 have ht:(El n M0 c).t<n:=by omega
 clear hpv hle
 generalize swp (El n M0 c).M (El n M0 c).t (fnd (El n M0 c).M c (n - (El n M0 c).t) (El n M0 c).t)=X at*
 generalize (El n M0 (c+1)).M=N at*
 generalize (El n M0 (c+1)).d=x at*
 generalize (El n M0 c).d=d at*
 generalize (El n M0 c).t=t at*
 have num_b: ∀ {y e:Int} {B:Nat},e≠0→y.natAbs≤B→((y:Rat) / (e:Rat)).num.natAbs≤B:=fun he hy=>Nat.le_trans (abs_num he rfl) hy
 have den_b: ∀ {y e:Int} {B:Nat},e≠0→e.natAbs≤B→(((y:Rat) / (e:Rat)).den:Int)≤(B:Int):=fun he hy=>Int.le_trans (abs_den he rfl) (by omega)
 refine⟨⟨(d:Rat) / (x:Rat),?_⟩,fun i j hi hj hit=>?_,fun i j hi hj hit hz=>?_,fun i hi=>?_⟩
 ·have pn:=num_b (e:=d) hd (bC t ht)
  have pd:=den_b (y:=X t c) hd bd
  have pp:=den_pos ((X t c:Rat) / (d:Rat))
  have aA:((X t c:Rat) / (d:Rat)).num≠0:=fun z=>hx (by rw[ex];exact(Qr_num hd t c).1 z)
  obtain⟨K,h1⟩:=fraction_ev (((X t c:Rat) / (d:Rat)).den:Int) ((X t c:Rat) / (d:Rat)).num (by omega) (by omega) (by omega) (by omega) aA
  have e:=h1 K (Nat.le_refl _)
  rw[piv_inv (x:=X t c) (by rw[← ex];exact hx) hd rfl,← ex]at e
  refine⟨K,by show impl_fraction.f K (((X t c:Rat) / (d:Rat)).den:Int) ((X t c:Rat) / (d:Rat)).num=_;rw[← ex];exact e,fun j hj=>?_⟩
  have a1:=num_b (e:=d) hd (bX t j ht hj)
  have a2:=den_b (y:=X t j) hd bd
  have a3:=num_b (e:=x) hx bd
  have a4:=den_b (y:=d) hx bx
  have a5:=num_b (e:=x) hx (bN t j ht hj)
  have a6:=den_b (y:=N t j) hx bx
  have es:((X t j:Rat) / (d:Rat))*((d:Rat) / (x:Rat))=(N t j:Rat) / (x:Rat):=by rw[step_row hx hd,eN]
  obtain⟨K2,h2⟩:=mulFr_ev ((X t j:Rat) / (d:Rat)) ((d:Rat) / (x:Rat)) (by omega) (by omega) (by omega) (by omega) (by omega) (by omega) (by rw[es];omega) (by rw[es];omega) (by rw[es];omega)
  have e2:=h2 K2 (Nat.le_refl _)
  rw[es]at e2
  exact⟨K2,e2⟩
 ·have hexi:=hex i j hi hj hit
  rw[← ex]at hexi
  have a1:=num_b (e:=d) hd (bC i hi)
  have a2:=den_b (y:=X i c) hd bd
  have a3:=num_b (e:=x) hx (bN t j ht hj)
  have a4:=den_b (y:=N t j) hx bx
  have hdx:d*x≠0:=fun z=>by rcases Int.mul_eq_zero.1 z with h|h;exact hd h;exact hx h
  have m1:(X i c*N t j).natAbs≤268738560*4478976000:=mul_abs (bC i hi) (bN t j ht hj)
  have m2:(d*x).natAbs≤268738560*268738560:=mul_abs bd bx
  have m3:(X i j*x).natAbs≤4478976000*268738560:=mul_abs (bX i j hi hj) bx
  have es:=step_mul (q:=X i c) (z:=N t j) hx hd
  have a5:=abs_num hdx es
  have a6:=abs_den hdx es
  obtain⟨K,h1⟩:=mulFr_ev (-((X i c:Rat) / (d:Rat))) ((N t j:Rat) / (x:Rat)) (by rw[(rneg _).1];omega) (by rw[(rneg _).1];omega) (by omega) (by omega) (by rw[(rneg _).2];omega) (by omega) (by omega) (by omega) (by omega)
  have e1:=h1 K (Nat.le_refl _)
  rw[(rneg _).1,(rneg _).2]at e1
  have ea: ∃(D u v:Int),0<D∧D≤72220413630873600∧(X i j:Rat) / (d:Rat)=(u:Rat) / (D:Rat)∧(-((X i c:Rat) / (d:Rat)))*((N t j:Rat) / (x:Rat))=(v:Rat) / (D:Rat)∧u.natAbs≤1203673560514560000∧v.natAbs≤1203673560514560000:=by
   have w1:=wide (y:=X i j) hx hd
   rcases Int.lt_or_lt_of_ne hdx with g|g
   ·exact⟨-(d*x),-(X i j*x),-(-(X i c*N t j)),by omega,by omega,flip_rat w1,flip_rat es,by omega,by omega⟩
   ·exact⟨d*x,X i j*x,-(X i c*N t j),g,by omega,w1,es,by omega,by omega⟩
  obtain⟨D,u,v,hD,hDb,hu,hv,bu,bv⟩:=ea
  obtain⟨K2,h2⟩:=addFr_ev _ _ D u v hD (by omega) hu hv (by omega) (by omega) (by omega) (by omega)
  have e2:=h2 K2 (Nat.le_refl _)
  have ez:(X i j:Rat) / (d:Rat)+(-((X i c:Rat) / (d:Rat)))*((N t j:Rat) / (x:Rat))=(N i j:Rat) / (x:Rat):=step_add hx hd (by rw[eN];exact hexi)
  rw[ez]at e2
  exact⟨_,K,K2,e1,e2⟩
 ·have hq:X i c=0:=(Qr_num hd i c).1 hz
  have hexi:=hex i j hi hj hit
  rw[← ex,hq,Int.zero_mul,Int.sub_zero]at hexi
  have ez:=step_add (y:=X i j) (q:=0) (z:=0) (n:=N i j) hx hd (by rw[Int.zero_mul,Int.sub_zero];exact hexi)
  have z0:((0:Int):Rat)=0:=rfl
  have:(X i j:Rat) / (d:Rat)=(N i j:Rat) / (x:Rat):=by
   rw[← ez,z0];grind
  exact this.symm
 ·exact num_b hd (bC i hi)
end
section
open Go.Proofs.Ytebbdadpgapobaa.Red Go.Proofs.Ytebbdadpgapobaa.Elim Go.Proofs.Ytebbdadpgapobaa.Fra
theorem infoI:(Try.prog.info? 3).map (fun i=>(i.zero,i.size,i.bytes))=some (some (.int .i64 0),1,8):=by kernel_rfl
structure RJ (w0:World) (g n m:Nat) (X:Nat→Nat→Int) (v5:Value) (ldf:Nat→Int) (b cc:Nat→Nat) (W:World):Prop where
 tb:TB 140 142 w0.heap.size g n (m+1) (2*(m+1)) b cc X W
 ld:Kd.R (Kd.int .i64) 3 W w0.heap.size (fun _=>True) v5 ((List.range m).map ldf)
 bw:Below w0.heap.size w0 W
namespace RJ
section
variable {w0 W W1:World} {g n m:Nat} {X:Nat→Nat→Int} {v5:Value} {ldf:Nat→Int} {b cc:Nat→Nat}
protected theorem below (h:RJ w0 g n m X v5 ldf b cc W) (hb:Below W.heap.size W W1):RJ w0 g n m X v5 ldf b cc W1:=⟨h.tb.below hb,Kd.R_below h.ld hb,h.bw.trans (hb.mono h.bw.size)⟩
protected theorem drewN (h:RJ w0 g n m X v5 ldf b cc W) (k:Nat):RJ w0 g n m X v5 ldf b cc (W.drewN k):=h.below (pw_below_drewN (Below.refl _ _) k)
protected theorem drew (h:RJ w0 g n m X v5 ldf b cc W):RJ w0 g n m X v5 ldf b cc W.drew:=h.below (below_drew (Below.refl _ _))
protected theorem alloc (h:RJ w0 g n m X v5 ldf b cc W) (o:Obj):RJ w0 g n m X v5 ldf b cc (W.alloc o):=h.below (below_alloc (Below.refl _ _) o)
protected theorem congr {Y:Nat→Nat→Int} (h:RJ w0 g n m X v5 ldf b cc W) (e: ∀i j,i<n→j<2*(m+1)→X i j=Y i j):RJ w0 g n m Y v5 ldf b cc W:=⟨h.tb.congr e,h.ld,h.bw⟩
protected theorem put (h:RJ w0 g n m X v5 ldf b cc W) {i j:Nat} (hi:i<n) (x:Int):RJ w0 g n m (fun i' j'=>if i'=i∧j'=j then x else X i' j') v5 ldf b cc (W.setCell ⟨b i,j,none⟩ (.int .i64 x)):=by
 obtain⟨cs,h1,_⟩:=h.tb.rw i hi
 exact⟨h.tb.put hi x,Kd.R_set h.ld h1 (by simp[Kd.int,Kd.scalar]) j _,below_set h.bw (h.tb.bb i hi)⟩
protected theorem rows_lt (h:RJ w0 g n m X v5 ldf b cc W):(∀i,i<n→b i<W.heap.size)∧(0<n→g<W.heap.size):=⟨fun i hi=>by obtain⟨cs,h1,_⟩:=h.tb.rw i hi;exact blk_lt h1,fun hn=>by obtain⟨hdr,h1,_⟩:=h.tb.hd hn;exact blk_lt h1⟩
protected theorem away (h:RJ w0 g n m X v5 ldf b cc W) {p:Nat} {cs:Array Value} (hp:W.heap[p]? =some (.cells cs 142 (0,0))) (h0:w0.heap.size≤p) (h1: ∀i,i<n→b i≠p) (j:Nat) (u:Value):RJ w0 g n m X v5 ldf b cc (W.setCell ⟨p,j,none⟩ u):=by
 refine⟨⟨fun hn=>by obtain⟨hdr,h3,h4⟩:=h.tb.hd hn;exact⟨hdr,blk_far h3 (fun e=>blk_ne h3 hp (by decide) e) _,h4⟩,fun i hi=>by obtain⟨cs',h3,h4⟩:=h.tb.rw i hi;exact⟨cs',blk_far h3 (h1 i hi) _,h4⟩,h.tb.inj,h.tb.ne,h.tb.bg,h.tb.bb⟩,Kd.R_set h.ld hp (by simp[Kd.int,Kd.scalar]) j _,below_set h.bw h0⟩
protected theorem lead (h:RJ w0 g n m X v5 ldf b cc W) {gl cap nl:Nat} (hv:v5= .slice (some ⟨gl,0,none⟩) nl cap) (c:Nat) (hc:c<m) (x:Int):RJ w0 g n m X v5 (upd ldf c x) b cc (W.setCell ⟨gl,c,none⟩ (.int .i64 x)):=by
 subst hv
 have hR:=h.ld
 obtain⟨gl',cap',hv',hb,_,cells,hcl⟩:=Kd.R_form hR (by simp;omega)
 injection hv' with e1 _ _
 injection e1 with e1
 injection e1 with e1
 subst e1
 have hp:=Kd.R_putn hR (c:Int) x
 rw[Int.toNat_natCast]at hp
 have e:((List.range m).map ldf).set c x=(List.range m).map (upd ldf c x):=by
  apply List.ext_getElem
  ·simp
  ·intro k h1 h2
   simp only[List.getElem_set,List.getElem_map,List.getElem_range]
   unfold upd
   by_cases q:c=k
   ·rw[if_pos q,if_pos q.symm]
   ·rw[if_neg q,if_neg (fun z=>q z.symm)]
 rw[e]at hp
 exact⟨h.tb.farT hcl (by decide) (by decide) c _,hp,below_set h.bw hb⟩
protected theorem swap (h:RJ w0 g n m X v5 ldf b cc W) {t q:Nat} (ht:t<n) (hq:q<n):
 RJ w0 g n m (swp X t q) v5 ldf (swp b t q) (swp cc t q) ((W.setCell ⟨g,t,none⟩ (.slice (some ⟨b q,0,none⟩) (m+1) (cc q))).setCell ⟨g,q,none⟩ (.slice (some ⟨b t,0,none⟩) (m+1) (cc t))):=by
 obtain⟨hdr,h1,h2⟩:=h.tb.hd (by omega)
 have h3:=blk_set h1 t (.slice (some ⟨b q,0,none⟩) (m+1) (cc q))
 have h4:=blk_set h3 q (.slice (some ⟨b t,0,none⟩) (m+1) (cc t))
 have hg:=h.tb.bg (by omega)
 refine⟨⟨fun _=>⟨_,h4,fun i hi=>?_⟩,fun i hi=>?_,fun i j hi hj e=>?_,fun i hi=>?_,fun _=>hg,fun i hi=>?_⟩,?_,below_set (below_set h.bw hg) hg⟩
 ·have l1:t<hdr.size:=(Array.getElem?_eq_some_iff.1 (h2 t ht)).1
  have l2:q<hdr.size:=(Array.getElem?_eq_some_iff.1 (h2 q hq)).1
  by_cases e1:i=q
  ·subst e1
   rw[Array.getElem?_setIfInBounds_self_of_lt (by simpa using l2)]
   unfold swp;rw[upd_same,upd_same]
  ·rw[Array.getElem?_setIfInBounds_ne (fun z=>e1 z.symm)]
   by_cases e2:i=t
   ·subst e2
    rw[Array.getElem?_setIfInBounds_self_of_lt l1,swp_fst,swp_fst]
   ·rw[Array.getElem?_setIfInBounds_ne (fun z=>e2 z.symm),swp_out _ e2 e1,swp_out _ e2 e1]
    exact h2 i hi
 ·obtain⟨k,hk,e⟩: ∃k,k<n∧swp b t q i=b k∧swp X t q i=X k:=by
   unfold swp upd
   by_cases e2:i=q
   ·exact⟨t,ht,by rw[if_pos e2,if_pos e2];exact⟨rfl,rfl⟩⟩
   ·by_cases e1:i=t
    ·exact⟨q,hq,by rw[if_neg e2,if_neg e2,if_pos e1,if_pos e1];exact⟨rfl,rfl⟩⟩
    ·exact⟨i,hi,by rw[if_neg e2,if_neg e2,if_neg e1,if_neg e1];exact⟨rfl,rfl⟩⟩
  rw[e.1,e.2]
  obtain⟨cs,h5,h6⟩:=h.tb.rw k hk
  exact⟨cs,blk_far (blk_far h5 (h.tb.ne k hk) _) (h.tb.ne k hk) _,h6⟩
 ·have key: ∀i,i<n→ ∃k,k<n∧swp b t q i=b k∧(k=if i=q then t else if i=t then q else i):=by
   intro i hi
   unfold swp upd
   by_cases e2:i=q
   ·exact⟨t,ht,by rw[if_pos e2],by rw[if_pos e2]⟩
   ·by_cases e1:i=t
    ·exact⟨q,hq,by rw[if_neg e2,if_pos e1],by rw[if_neg e2,if_pos e1]⟩
    ·exact⟨i,hi,by rw[if_neg e2,if_neg e1],by rw[if_neg e2,if_neg e1]⟩
  obtain⟨k1,a1,a2,a3⟩:=key i hi
  obtain⟨k2,b1,b2,b3⟩:=key j hj
  have:=h.tb.inj k1 k2 a1 b1 (by rw[← a2,← b2];exact e)
  rw[a3,b3]at this
  split at this <;> split at this <;> (try split at this) <;> (try split at this) <;> omega
 ·obtain⟨k,hk,e⟩:=swp_cases b t q i
  rw[e];exact h.tb.ne k (by omega)
 ·obtain⟨k,hk,e⟩:=swp_cases b t q i
  rw[e];exact h.tb.bb k (by omega)
 ·exact Kd.R_set (Kd.R_set h.ld h1 (by simp[Kd.int,Kd.scalar]) t _) h3 (by simp[Kd.int,Kd.scalar]) q _
protected theorem mid (h:RJ w0 g n m X v5 ldf b cc W) {t q:Nat} (hq:q<n) (u:Value):
 (∃z,(W.setCell ⟨g,t,none⟩ u).cell? ⟨g,q,none⟩=some z)∧(W.setCell ⟨g,t,none⟩ u).frozen? ⟨g,q,none⟩=false:=by
 obtain⟨hdr,h1,h2⟩:=h.tb.hd (by omega)
 have h3:=blk_set h1 t u
 refine⟨?_,blk_frozen h3 q⟩
 rw[blk_cell h3]
 have l1:q<hdr.size:=(Array.getElem?_eq_some_iff.1 (h2 q hq)).1
 exact⟨_,Array.getElem?_eq_getElem (by simpa using l1)⟩
end
end RJ
theorem FT_swp (Y:Nat→Nat→Int) (d:Int) (t f i j:Nat):swp (FT (Qr Y d)) t f i j=FT (Qr (swp Y t f) d) i j:=by
 unfold swp upd
 by_cases h1:i=f
 ·rw[if_pos h1];unfold FT Qr;simp only[if_pos h1]
 ·rw[if_neg h1]
  by_cases h2:i=t
  ·rw[if_pos h2];unfold FT Qr;simp only[if_neg h1,if_pos h2]
  ·rw[if_neg h2];unfold FT Qr;simp only[if_neg h1,if_neg h2]
structure PV (w0:World) (n:Nat) (b:Nat→Nat) (p:Nat) (u v:Int) (W:World):Prop where
 blk:W.heap[p]? =some (.cells #[.int .i64 u,.int .i64 v] 142 (0,0))
 ap: ∀i,i<n→b i≠p
 ge:w0.heap.size≤p
namespace PV
section
variable {w0 W W1:World} {n:Nat} {b:Nat→Nat} {p:Nat} {u v:Int}
protected theorem below (h:PV w0 n b p u v W) (hb:Below W.heap.size W W1):PV w0 n b p u v W1:=⟨blk_below h.blk hb,h.ap,h.ge⟩
protected theorem drew (h:PV w0 n b p u v W):PV w0 n b p u v W.drew:=⟨blk_drew h.blk,h.ap,h.ge⟩
protected theorem put (h:PV w0 n b p u v W) {i:Nat} (hi:i<n) (j:Nat) (x:Value):PV w0 n b p u v (W.setCell ⟨b i,j,none⟩ x):=⟨blk_far h.blk (fun e=>h.ap i hi e.symm) _,h.ap,h.ge⟩
protected theorem far (h:PV w0 n b p u v W) {q:Nat} (hq:p≠q) (j:Nat) (x:Value):PV w0 n b p u v (W.setCell ⟨q,j,none⟩ x):=⟨blk_far h.blk hq _,h.ap,h.ge⟩
protected theorem cells (h:PV w0 n b p u v W):W.cell? ⟨p,0,none⟩=some (.int .i64 u)∧W.cell? ⟨p,1,none⟩=some (.int .i64 v):=⟨(blk_cell h.blk 0).trans rfl,(blk_cell h.blk 1).trans rfl⟩
end
end PV
def RedIPost (w0:World) (g n m:Nat) (M0:Nat→Nat→Int) (e:Ending) (w':World):Prop:=
 ∃(v:Value),e= .returned v∧Kd.R (Kd.int .i64) 3 w' w0.heap.size (fun _=>True) v ((List.range m).map (El n M0 m).ld)∧
  (∃b cc,TB 140 142 w0.heap.size g n (m+1) (2*(m+1)) b cc (FT (Qr (El n M0 m).M (El n M0 m).d)) w')∧Below w0.heap.size w0 w'
set_option maxHeartbeats 8000000 in
set_option maxRecDepth 100000 in
theorem redi_calls {w0 W:World} {g n m cap:Nat} {A:Option Addr} {b cc:Nat→Nat} {M0:Nat→Nat→Int} (hF:Fit n m M0) (hm:m≤8) (hA:0<n→A=some ⟨g,0,none⟩)
 (hT:TB 140 142 w0.heap.size g n (m+1) (2*(m+1)) b cc (FT (Qr M0 1)) W) (hB:Below w0.heap.size w0 W):
 Calls Try.prog 93 #[.slice A n cap,.int .i64 (m:Int)] W (RedIPost w0 g n m M0):=by
 have H0:=Aside0.mk (And.intro hF (And.intro hm hA))
 have HT:=Aside0.mk (And.intro hT hB)
 clear hF hm hA hT hB
 go_enter Try.func93,Try.ntmps93
 go_wp2_with ((with_reducible refine gate_dst (N:=16) rfl ?_);refine Kd.R_make (Kd.int .i64) _ 3 rfl (N:=16) rfl 122 _ _ rfl (m:Int) rfl rfl Try.underlying122 (.int .i64 0) 8 infoI rfl (by decide) (by decide) 0 (ok:=fun _=>True) (okp:=fun _=>True) rfl (fun _ hk=>hk) trivial (by omega) (by have h1:=H0.out.2.1;omega) (Below.refl _ _) (Nat.le_refl _) ?_;intro cH w1 ho hb hg_ hnew_;clear hg_ hnew_;rw[Int.toNat_natCast]at ho;obtain⟨A5,c5,bV⟩:=Kd.R_slice ho;rw[List.length_replicate]at bV;subst bV;have HO:=Aside0.mk (Kd.R_lower ho HT.out.2.size);have bT:=Aside0.mk hb;clear ho hb)
 go_loopg [6,19] (m+1) (fun kq v6 cA w'=>∃(c:Nat) (ci ti:Int) (b cc:Nat→Nat),v6= .int .i64 ti∧cA= .int .i64 ci∧Aside0 (ci=(c:Int)∧ti=((El n M0 c).t:Int)∧c+kq=m+1∧1≤kq)∧Aside0 (RJ w0 g n m (FT (Qr (El n M0 c).M (El n M0 c).d)) (.slice A5 m c5) (El n M0 c).ld b cc w'))
 case atStart=>
  refine⟨0,0,0,b,cc,rfl,rfl,⟨rfl,rfl,by omega,by omega⟩,⟨⟨HT.out.1.below bT.out,?_,below_step HT.out.2 bT.out⟩⟩⟩
  rw[show(List.range m).map (El n M0 0).ld=List.replicate m 0 from by
   apply List.ext_getElem
   ·simp
   ·intro k h1 h2;simp[El]]
  exact HO.out
 case round=>
  obtain⟨c,ci,ti,b,cc,rfl,rfl,HA,HI⟩:=hrel
  obtain⟨gq,rfl⟩: ∃k,gk=k+1:=⟨gk - 1,by have:=HA.out;omega⟩
  have bI:ci.toNat=c:=by have:=HA.out;omega
  have bQ:ti.toNat=(El n M0 c).t:=by have:=HA.out;omega
  by_cases c1:c<m
  ·have d1:decide (ci<(m:Int))=true:=decide_eq_true (by have:=HA.out;omega)
   obtain⟨gl,capl,hvl,_,_,cellsl,hcl⟩:=Kd.R_form HI.out.ld (by simp;omega)
   rw[List.length_map,List.length_range]at hvl
   injection hvl with e1 e2 e3
   clear e2
   subst e1 e3
   have hcell:=(row_cell HI.out.ld ci (by have:=HA.out;omega) (by have:=HA.out;omega)).1
   have z0:=blk_frozen hcl ci.toNat
   have p1:(0≤ci)=True:=eq_true (by have:=HA.out;omega)
   have p2:(ci<(m:Int))=True:=eq_true (by have:=HA.out;omega)
   obtain⟨ml,hml⟩: ∃ml,ml=m+1:=⟨_,rfl⟩
   obtain⟨t,ht⟩: ∃t,t=(El n M0 c).t:=⟨_,rfl⟩
   obtain⟨Y,hY⟩: ∃Y,Y=(El n M0 c).M:=⟨_,rfl⟩
   obtain⟨d,hd⟩: ∃d,d=(El n M0 c).d:=⟨_,rfl⟩
   obtain⟨f,hf⟩: ∃f,f=fnd Y c (n - t) t:=⟨_,rfl⟩
   have HF:=Aside0.mk (show(t=(El n M0 c).t∧Y=(El n M0 c).M∧d=(El n M0 c).d∧ml=m+1)∧(f=fnd Y c (n - t) t)∧(t≤f∧f≤n)∧(∀k,t≤k→k<f→Y k c=0)∧(f<n→Y f c≠0)∧d≠0∧(ci.toNat=c∧ti.toNat=t)from by
    have h1:=fnd_le Y c (n - t) t
    have h2:=H0.out.1.tn c (by omega)
    refine⟨⟨ht,hY,hd,hml⟩,hf,by omega,fun k h3 h4=>fnd_zero Y c (n - t) t k h3 (by omega),fun h3=>?_,by rw[hd];exact H0.out.1.d0 c (by omega),bI,by omega⟩
    have:=fnd_ne Y c (n - t) t (by omega)
    rw[← hf]at this;exact this)
   have C1:=Aside0.mk c1
   have bU:=Aside0.mk (show RJ w0 g n m (FT (Qr Y d)) (.slice (some ⟨gl,0,none⟩) m c5) (El n M0 c).ld b cc wr from by rw[hY,hd];exact HI.out)
   have HCL:=Aside0.mk hcl
   clear HI ht hY hd hf hml c1 bI bQ hcl
   go_upto_region 7 with (fail)
   obtain⟨w2,aM⟩: ∃w2,w2=wr.setCell ⟨gl,ci.toNat,none⟩ (.int .i64 (-1)):=⟨_,rfl⟩
   rw[← aM]
   have cF:=Aside0.mk (show RJ w0 g n m (FT (Qr Y d)) (.slice (some ⟨gl,0,none⟩) m c5) (upd (El n M0 c).ld c (-1)) b cc w2 from by
    rw[aM,HF.out.2.2.2.2.2.2.1];exact bU.out.lead rfl c C1.out (-1))
   clear aM bU HCL hcell z0
   go_wp2_with (fail)
   go_loopg [8] (n+1 - t) (fun kq v8 w'=>∃(q:Nat) (qi:Int),v8= .int .i64 qi∧Aside0 (qi=(q:Int)∧t≤q∧q≤f∧q+kq=n+1∧1≤kq)∧Aside0 (RJ w0 g n m (FT (Qr Y d)) (.slice (some ⟨gl,0,none⟩) m c5) (upd (El n M0 c).ld c (-1)) b cc w'))
   case atStart=>
    refine⟨t,ti,rfl,⟨?_,Nat.le_refl _,HF.out.2.2.1.1,?_,?_⟩,cF⟩
    ·have:=HA.out;have:=HF.out.1;omega
    ·have:=HF.out;omega
    ·have:=HF.out;omega
   case round=>
    obtain⟨q,qi,rfl,HQ,HJ⟩:=hrel
    obtain⟨gr,rfl⟩: ∃k,gk=k+1:=⟨gk - 1,by have:=HQ.out;omega⟩
    have bS:qi.toNat=q:=by have:=HQ.out;omega
    have bP:ci.toNat*2=2*c:=by have:=HF.out.2.2.2.2.2.2.1;omega
    have aE:=Aside0.mk (And.intro bS bP)
    clear bS bP
    have p3:(0≤qi)=True:=eq_true (by have:=HQ.out;omega)
    have p5:(ci<(ml:Int))=True:=eq_true (by have:=HA.out;have:=C1.out;have:=HF.out.1;omega)
    by_cases c3:q<f
    ·have hqn:q<n:=by have:=HF.out.2.2.1;omega
     obtain rfl:=H0.out.2.2 (by omega)
     have d2:decide (qi<(n:Int))=true:=decide_eq_true (by have:=HQ.out;omega)
     have g0:wr.cell? ⟨g,qi.toNat,none⟩=some (.slice (some ⟨b q,0,none⟩) ml (cc q)):=by rw[aE.out.1,HF.out.1.2.2.2];exact HJ.out.tb.head hqn
     have g1:wr.cell? ⟨b q,ci.toNat*2,none⟩=some (.int .i64 0):=by
      have h:=HJ.out.tb.num (j:=2*c) hqn (by have:=C1.out;omega)
      rw[FT_num,(Qr_num HF.out.2.2.2.2.2.1 q c).2 (HF.out.2.2.2.1 q HQ.out.2.1 c3)]at h
      rw[aE.out.2];exact h
     have p4:(qi<(n:Int))=True:=eq_true (by have:=HQ.out;omega)
     have C3:=Aside0.mk (And.intro c3 hqn)
     clear c3 hqn
     go_wp2_with (fail)
     go_roundg gr
     case measure=>omega
     case rel=>
      have h1:=HQ.out;have h2:=HF.out.2.2.1;have h3:=C3.out;have h4:=H0.out.1.n6
      have hw:=wrap_id (qi+1) (by omega) (by omega)
      exact⟨q+1,qi+1,by rw[hw],⟨by omega,by omega,by omega,by omega,by omega⟩,HJ⟩
    ·have C3:=Aside0.mk (show q=f from by have:=HQ.out;omega)
     clear c3
     by_cases c4:f=n
     ·have d2:decide (qi<(n:Int))=false:=decide_eq_false (by have:=HQ.out;have:=C3.out;omega)
      have b1:(qi == (n:Int))=true:=beq_iff_eq.mpr (by have:=HQ.out;have:=C3.out;omega)
      have C4:=Aside0.mk c4
      clear c4
      go_wp2_with (fail)
      go_roundg gq
      case measure=>omega
      case rel=>
       have h1:=HA.out;have h2:=C1.out;have h3:=H0.out.2.1
       have hw:=wrap_id (ci+1) (by omega) (by omega)
       have hf:fnd (El n M0 c).M c (n - (El n M0 c).t) (El n M0 c).t=n:=by rw[← HF.out.1.2.1,← HF.out.1.1,← HF.out.2.1];exact C4.out
       have hs:=El_skip n M0 c hf
       have hl:(El n M0 (c+1)).ld=upd (El n M0 c).ld c (-1):=by show(col n c (El n M0 c)).ld=_;unfold col;rw[if_pos hf]
       have hR:=HJ.out
       rw[HF.out.1.2.1,HF.out.1.2.2.1,← hs.2.2,← hs.1,← hl]at hR
       exact⟨c+1,ci+1,ti,b,cc,rfl,by rw[hw],⟨by omega,by rw[hs.2.1];omega,by omega,by omega⟩,⟨hR⟩⟩
     ·have hfn:f<n:=by have:=HF.out.2.2.1;omega
      have htn:t<n:=by have:=HF.out.2.2.1;omega
      obtain rfl:=H0.out.2.2 (by omega)
      have HSF:=step_facts H0.out.1 C1.out (by rw[← HF.out.1.2.1,← HF.out.1.1,← HF.out.2.1];exact hfn)
      rw[← HF.out.1.2.1,← HF.out.1.2.2.1,← HF.out.1.1,← HF.out.2.1]at HSF
      obtain⟨x,hx⟩: ∃x,x=(Qr Y d f c).num:=⟨_,rfl⟩
      have aZ:x≠0:=by rw[hx];exact fun z=>HF.out.2.2.2.2.1 hfn ((Qr_num HF.out.2.2.2.2.2.1 f c).1 z)
      have HP:=Aside0.mk (And.intro hfn (And.intro htn (And.intro hx aZ)))
      have d2:decide (qi<(n:Int))=true:=decide_eq_true (by have:=HQ.out;have:=C3.out;omega)
      have b1:(qi == (n:Int))=false:=beq_eq_false_iff_ne.mpr (by have:=HQ.out;have:=C3.out;omega)
      have b2:(x == 0)=false:=beq_eq_false_iff_ne.mpr aZ
      clear c4 hfn htn hx aZ
      have g0:wr.cell? ⟨g,qi.toNat,none⟩=some (.slice (some ⟨b f,0,none⟩) ml (cc f)):=by rw[aE.out.1,C3.out,HF.out.1.2.2.2];exact HJ.out.tb.head HP.out.1
      have g1:wr.cell? ⟨b f,ci.toNat*2,none⟩=some (.int .i64 x):=by
       have h:=HJ.out.tb.num (j:=2*c) HP.out.1 (by have:=C1.out;omega)
       rw[FT_num,← HP.out.2.2.1]at h
       rw[aE.out.2];exact h
      have g2:wr.cell? ⟨g,ti.toNat,none⟩=some (.slice (some ⟨b t,0,none⟩) ml (cc t)):=by rw[HF.out.2.2.2.2.2.2.2,HF.out.1.2.2.2];exact HJ.out.tb.head HP.out.2.1
      have p4:(qi<(n:Int))=True:=eq_true (by have:=HQ.out;have:=C3.out;have:=HP.out.1;omega)
      have p6:(0≤ti)=True:=eq_true (by have:=HA.out;omega)
      have p7:(ti<(n:Int))=True:=eq_true (by have:=HA.out;have:=HP.out;have:=HF.out.1.1;omega)
      replace HSF:=Aside0.mk HSF
      go_upto_region 11 with (fail)
      refine start_ (n:=16) (S:=fun w'=>w'.cell? ⟨g,qi.toNat,none⟩=some (.slice (some ⟨b f,0,none⟩) ml (cc f))∧w'.cell? ⟨g,ti.toNat,none⟩=some (.slice (some ⟨b t,0,none⟩) ml (cc t))) (ds:=[13,15]) #[false,false,false,false,false,false,false,false,false,false,false,false,false,false,false,false] (by kernel_rfl) rfl rfl ⟨g0,g2⟩ (fun hHeld=>?_)
      refine pure_ (i:=0) (N:=some 47) (v:=?_) (a':=?_) #[true,false,false,false,false,false,false,false,false,false,false,false,false,false,false,false] rfl rfl (by kernel_rfl) (fun _ _ _ h=>h) (Or.inl ⟨by rfl,?_⟩) ?_ ?_
      rotate_left
      ·intro w'
       go_simp
       with_reducible rfl
      rotate_left
      ·simp only[Act.put,List.setIfInBounds_toArray,List.set_cons_zero,List.set_cons_succ,i64_w,i32_w]
       rfl
      refine pure_ (i:=1) (N:=some 48) (v:=?_) (a':=?_) #[true,true,false,false,false,false,false,false,false,false,false,false,false,false,false,false] rfl rfl (by kernel_rfl) (fun _ _ _ h=>h) (Or.inl ⟨by rfl,?_⟩) ?_ ?_
      rotate_left
      ·intro w'
       go_simp
       with_reducible rfl
      rotate_left
      ·simp only[Act.put,List.setIfInBounds_toArray,List.set_cons_zero,List.set_cons_succ,i64_w,i32_w]
       rfl
      refine pure_ (i:=2) (N:=some 49) (v:=?_) (a':=?_) #[true,true,true,false,false,false,false,false,false,false,false,false,false,false,false,false] rfl rfl (by kernel_rfl) (fun _ _ _ h=>h) (Or.inl ⟨by rfl,?_⟩) ?_ ?_
      rotate_left
      ·intro w'
       go_simp
       with_reducible rfl
      rotate_left
      ·simp only[Act.put,List.setIfInBounds_toArray,List.set_cons_zero,List.set_cons_succ,i64_w,i32_w]
       rfl
      refine pure_ (i:=3) (N:=some 50) (v:=?_) (a':=?_) #[true,true,true,true,false,false,false,false,false,false,false,false,false,false,false,false] rfl rfl (by kernel_rfl) (fun _ _ _ h=>h) (Or.inl ⟨by rfl,?_⟩) ?_ ?_
      rotate_left
      ·intro w'
       go_simp
       with_reducible rfl
      rotate_left
      ·simp only[Act.put,List.setIfInBounds_toArray,List.set_cons_zero,List.set_cons_succ,i64_w,i32_w]
       rfl
      refine pure_ (i:=4) (N:=some 51) (v:=?_) (a':=?_) #[true,true,true,true,true,false,false,false,false,false,false,false,false,false,false,false] rfl rfl (by kernel_rfl) (fun _ _ _ h=>h) (Or.inl ⟨by rfl,?_⟩) ?_ ?_
      rotate_left
      ·intro w'
       go_simp
       with_reducible rfl
      rotate_left
      ·simp only[Act.put,List.setIfInBounds_toArray,List.set_cons_zero,List.set_cons_succ,i64_w,i32_w]
       rfl
      refine pure_ (i:=5) (N:=some 52) (v:=?_) (a':=?_) #[true,true,true,true,true,true,false,false,false,false,false,false,false,false,false,false] rfl rfl (by kernel_rfl) (fun _ _ _ h=>h) (Or.inl ⟨by rfl,?_⟩) ?_ ?_
      rotate_left
      ·intro w'
       go_simp
       with_reducible rfl
      rotate_left
      ·simp only[Act.put,List.setIfInBounds_toArray,List.set_cons_zero,List.set_cons_succ,i64_w,i32_w]
       rfl
      refine pure_ (i:=6) (N:=some 53) (v:=?_) (a':=?_) #[true,true,true,true,true,true,true,false,false,false,false,false,false,false,false,false] rfl rfl (by kernel_rfl) (fun _ _ _ h=>h) (Or.inl ⟨by rfl,?_⟩) ?_ ?_
      rotate_left
      ·intro w'
       go_simp
       with_reducible rfl
      rotate_left
      ·simp only[Act.put,List.setIfInBounds_toArray,List.set_cons_zero,List.set_cons_succ,i64_w,i32_w]
       rfl
      refine take_ (i:=7) (N:=some 54) (v:=?_) (a':=?_) #[true,true,true,true,true,true,true,true,false,false,false,false,false,false,false,false] rfl rfl (by kernel_rfl) (fun _ _ _ h=>h) (Or.inl ⟨by rfl,?_⟩) hHeld ?_ ?_
      rotate_left
      ·rintro w' ⟨s0,s1⟩
       go_simp
       with_reducible rfl
      rotate_left
      ·simp only[Act.put,List.setIfInBounds_toArray,List.set_cons_zero,List.set_cons_succ,i64_w,i32_w]
       rfl
      refine pure_ (i:=8) (N:=some 55) (v:=?_) (a':=?_) #[true,true,true,true,true,true,true,true,true,false,false,false,false,false,false,false] rfl rfl (by kernel_rfl) (fun _ _ _ h=>h) (Or.inl ⟨by rfl,?_⟩) ?_ ?_
      rotate_left
      ·intro w'
       go_simp
       with_reducible rfl
      rotate_left
      ·simp only[Act.put,List.setIfInBounds_toArray,List.set_cons_zero,List.set_cons_succ,i64_w,i32_w]
       rfl
      refine pure_ (i:=9) (N:=some 56) (v:=?_) (a':=?_) #[true,true,true,true,true,true,true,true,true,true,false,false,false,false,false,false] rfl rfl (by kernel_rfl) (fun _ _ _ h=>h) (Or.inl ⟨by rfl,?_⟩) ?_ ?_
      rotate_left
      ·intro w'
       go_simp
       with_reducible rfl
      rotate_left
      ·simp only[Act.put,List.setIfInBounds_toArray,List.set_cons_zero,List.set_cons_succ,i64_w,i32_w]
       rfl
      refine pure_ (i:=10) (N:=some 57) (v:=?_) (a':=?_) #[true,true,true,true,true,true,true,true,true,true,true,false,false,false,false,false] rfl rfl (by kernel_rfl) (fun _ _ _ h=>h) (Or.inl ⟨by rfl,?_⟩) ?_ ?_
      rotate_left
      ·intro w'
       go_simp
       with_reducible rfl
      rotate_left
      ·simp only[Act.put,List.setIfInBounds_toArray,List.set_cons_zero,List.set_cons_succ,i64_w,i32_w]
       rfl
      refine take_ (i:=11) (N:=some 58) (v:=?_) (a':=?_) #[true,true,true,true,true,true,true,true,true,true,true,true,false,false,false,false] rfl rfl (by kernel_rfl) (fun _ _ _ h=>h) (Or.inl ⟨by rfl,?_⟩) hHeld ?_ ?_
      rotate_left
      ·rintro w' ⟨s0,s1⟩
       go_simp
       with_reducible rfl
      rotate_left
      ·simp only[Act.put,List.setIfInBounds_toArray,List.set_cons_zero,List.set_cons_succ,i64_w,i32_w]
       rfl
      refine pure_ (i:=12) (N:=some 59) (v:=?_) (a':=?_) #[true,true,true,true,true,true,true,true,true,true,true,true,true,false,false,false] rfl rfl (by kernel_rfl) (fun _ _ _ h=>h) (Or.inl ⟨by rfl,?_⟩) ?_ ?_
      rotate_left
      ·intro w'
       go_simp
       with_reducible rfl
      rotate_left
      ·simp only[Act.put,List.setIfInBounds_toArray,List.set_cons_zero,List.set_cons_succ,i64_w,i32_w]
       rfl
      obtain⟨w3,aT⟩: ∃w3,Aside0 (w3=wr.drew):=⟨_,⟨rfl⟩⟩
      rw[← aT.out]
      rw[← aT.out]at hHeld
      have aS:=Aside0.mk (show RJ w0 g n m (FT (Qr Y d)) (.slice (some ⟨gl,0,none⟩) m c5) (upd (El n M0 c).ld c (-1)) b cc w3 from aT.out▸HJ.out.drew)
      clear HJ aT g0 g1 g2
      have g2:=hHeld.2
      have z2:=aS.out.tb.headZ (i:=t) HP.out.2.1 ti.toNat
      clear hHeld
      refine last_ (i:=13) (N:=none) #[true,true,true,true,true,true,true,true,true,true,true,true,true,true,false,false] rfl rfl (by kernel_rfl) (by decide) (fun K hK=>?_)
      refine skip_ (w1:=?_) (by rfl) rfl ?_ ?_
      rotate_left
      ·go_simp
       rfl
      refine hK.out _ _ ?_
      clear hK K
      obtain⟨w4,aV⟩: ∃w4,Aside0 (w4=w3.setCell ⟨g,ti.toNat,none⟩ (.slice (some ⟨b f,0,none⟩) ml (cc f))):=⟨_,⟨rfl⟩⟩
      rw[← aV.out]
      clear g2 z2
      obtain⟨⟨zold,g0⟩,z0⟩:=aS.out.mid (t:=ti.toNat) (q:=qi.toNat) (by rw[aE.out.1,C3.out];exact HP.out.1) (.slice (some ⟨b f,0,none⟩) ml (cc f))
      rw[← aV.out]at g0 z0
      refine pure_ (i:=14) (N:=some 60) (v:=?_) (a':=?_) #[true,true,true,true,true,true,true,true,true,true,true,true,true,true,true,false] rfl rfl (by kernel_rfl) (fun _ _ _ h=>h) (Or.inl ⟨by rfl,?_⟩) ?_ ?_
      rotate_left
      ·intro w'
       go_simp
       with_reducible rfl
      rotate_left
      ·simp only[Act.put,List.setIfInBounds_toArray,List.set_cons_zero,List.set_cons_succ,i64_w,i32_w]
       rfl
      refine last_ (i:=15) (N:=none) #[true,true,true,true,true,true,true,true,true,true,true,true,true,true,true,true] rfl rfl (by kernel_rfl) (by decide) (fun K hK=>?_)
      refine skip_ (w1:=?_) (by rfl) rfl ?_ ?_
      rotate_left
      ·go_simp
       rfl
      refine hK.out _ _ ?_
      clear hK K
      refine done_ (by kernel_rfl) ?_
      clear g0 z0
      obtain⟨w5,bJ⟩: ∃w5,Aside0 (w5=w4.setCell ⟨g,qi.toNat,none⟩ (.slice (some ⟨b t,0,none⟩) ml (cc t))):=⟨_,⟨rfl⟩⟩
      rw[← bJ.out]
      obtain⟨b',hb'⟩: ∃b',b'=swp b t f:=⟨_,rfl⟩
      obtain⟨cc',hcc'⟩: ∃b',b'=swp cc t f:=⟨_,rfl⟩
      obtain⟨Qo,hQo⟩: ∃Q,Q=Qr (swp Y t f) d:=⟨_,rfl⟩
      obtain⟨Qn,hQn⟩: ∃Q,Q=Qr (El n M0 (c+1)).M (El n M0 (c+1)).d:=⟨_,rfl⟩
      rw[← hQo,← hQn]at HSF
      have aO:=Aside0.mk (show RJ w0 g n m (FT Qo) (.slice (some ⟨gl,0,none⟩) m c5) (upd (El n M0 c).ld c (-1)) b' cc' w5 from by
       have h:=aS.out.swap HP.out.2.1 HP.out.1
       rw[bJ.out,aV.out,HF.out.2.2.2.2.2.2.2,aE.out.1,C3.out,hb',hcc',hQo,HF.out.1.2.2.2]
       refine h.congr (fun i j hi hj=>?_)
       exact FT_swp Y d t f i j)
      have HQE:=Aside0.mk (And.intro hQo hQn)
      clear bJ aV aS hb' hcc' hQo hQn
      obtain⟨pn,hpn⟩: ∃z,z=(Qo t c).num:=⟨_,rfl⟩
      obtain⟨pd,hpd⟩: ∃z,z=((Qo t c).den:Int):=⟨_,rfl⟩
      obtain⟨bt,hbt⟩: ∃z,z=b' t:=⟨_,rfl⟩
      obtain⟨ct,hct⟩: ∃z,z=cc' t:=⟨_,rfl⟩
      have g0:w5.cell? ⟨g,ti.toNat,none⟩=some (.slice (some ⟨bt,0,none⟩) ml ct):=by rw[hbt,hct,HF.out.2.2.2.2.2.2.2,HF.out.1.2.2.2];exact aO.out.tb.head HP.out.2.1
      have g1:w5.cell? ⟨bt,ci.toNat*2,none⟩=some (.int .i64 pn):=by
       have h:=aO.out.tb.num (j:=2*c) HP.out.2.1 (by have:=C1.out;omega)
       rw[FT_num,← hpn]at h
       rw[aE.out.2,hbt];exact h
      have g2:w5.cell? ⟨bt,ci.toNat*2+1,none⟩=some (.int .i64 pd):=by
       have h:=aO.out.tb.num (j:=2*c+1) HP.out.2.1 (by have:=C1.out;omega)
       rw[FT_den,← hpd]at h
       rw[aE.out.2,hbt];exact h
      obtain⟨In,kI,aQ,aW⟩:=HSF.out.inv
      rw[← hpn,← hpd]at aQ
      obtain⟨iu,hiu⟩: ∃z,z=In.num:=⟨_,rfl⟩
      obtain⟨iv,hiv⟩: ∃z,z=(In.den:Int):=⟨_,rfl⟩
      rw[← hiu,← hiv]at aQ
      have aW: ∀j,j≤m→ ∃k,impl_mulFractions.f k (Qo t j).num ((Qo t j).den:Int) iu iv=some ((Qn t j).num,((Qn t j).den:Int)):=by rw[hiu,hiv];exact aW
      have HIN:=Aside0.mk (And.intro aQ aW)
      have HBT:=Aside0.mk (And.intro hbt hct)
      have HPN:=Aside0.mk (And.intro hpn hpd)
      clear aQ aW hiu hiv hbt hct hpn hpd
      go_upto_region 13 with (fail)
      obtain⟨gP,hgP⟩: ∃z,z=w5.heap.size:=⟨_,rfl⟩
      obtain⟨w6,aY⟩: ∃z,z=w5.alloc (.cells #[.int .i64 pn,.int .i64 pd] 142 (0,0)):=⟨_,rfl⟩
      rw[← hgP,← aY]
      have aP:=Aside0.mk (show RJ w0 g n m (FT Qo) (.slice (some ⟨gl,0,none⟩) m c5) (upd (El n M0 c).ld c (-1)) b' cc' w6∧w6.heap[gP]? =some (.cells #[.int .i64 pn,.int .i64 pd] 142 (0,0))from⟨aY▸aO.out.alloc _,by rw[aY,hgP];exact alloc_at _ _⟩)
      clear hgP aY aO g0 g1 g2
      have f0:=(blk_cell aP.out.2 0).trans rfl
      have f1:=(blk_cell aP.out.2 1).trans rfl
      go_upto_region 14 with (go_at_call 106;refine(impl_fraction.calls kI pd pn iu iv w6 HIN.out.1).mono ?_;rintro e w7 ⟨rfl,hb⟩;have aX:=Aside0.mk (aP.out.1.below hb);clear hb f0 f1)
      obtain⟨gI,hgI⟩: ∃z,z=w7.heap.size:=⟨_,rfl⟩
      obtain⟨w8,aR⟩: ∃z,z=w7.alloc (.cells #[.int .i64 iu,.int .i64 iv] 142 (0,0)):=⟨_,rfl⟩
      rw[← hgI,← aR]
      have bG:=Aside0.mk (show RJ w0 g n m (FT Qo) (.slice (some ⟨gl,0,none⟩) m c5) (upd (El n M0 c).ld c (-1)) b' cc' w8∧PV w0 n b' gI iu iv w8 from⟨aR▸aX.out.alloc _,by rw[aR,hgI];exact alloc_at _ _,fun i hi e=>by have:=aX.out.rows_lt.1 i hi;omega,by rw[hgI];exact aX.out.bw.size⟩)
      clear hgI aR aX aP
      have g0:w8.cell? ⟨g,ti.toNat,none⟩=some (.slice (some ⟨bt,0,none⟩) ml ct):=by rw[HBT.out.1,HBT.out.2,HF.out.2.2.2.2.2.2.2,HF.out.1.2.2.2];exact bG.out.1.tb.head HP.out.2.1
      go_wp2_with (fail)
      go_loopg [78] (ml+1) (fun kq cB w'=>∃(k:Nat) (ki:Int),cB= .int .i64 ki∧Aside0 (ki=(k:Int)∧k+kq=ml+1∧1≤kq)∧Aside0 (RJ w0 g n m (fun i' j'=>if i'=t∧j'<2*k then FT Qn i' j' else FT Qo i' j') (.slice (some ⟨gl,0,none⟩) m c5) (upd (El n M0 c).ld c (-1)) b' cc' w'∧PV w0 n b' gI iu iv w'))
      case atStart=>exact⟨0,0,rfl,⟨rfl,by omega,by omega⟩,⟨bG.out.1.congr (fun i' j' _ _=>by rw[if_neg (by omega)]),bG.out.2⟩⟩
      case round=>
       obtain⟨k,ki,rfl,HK,HL⟩:=hrel
       obtain⟨gs,rfl⟩: ∃k,gk=k+1:=⟨gk - 1,by have:=HK.out;omega⟩
       have aN:ki.toNat*2=2*k:=by have:=HK.out;omega
       have bE:=Aside0.mk aN
       clear aN g0
       by_cases c6:k<ml
       ·have d3:decide (ki<(ml:Int))=true:=decide_eq_true (by have:=HK.out;omega)
        have C5:=Aside0.mk (show k≤m from by have:=HF.out.1;omega)
        obtain⟨qn,hqn⟩: ∃z,z=(Qo t k).num:=⟨_,rfl⟩
        obtain⟨qd,hqd⟩: ∃z,z=((Qo t k).den:Int):=⟨_,rfl⟩
        obtain⟨rn,hrn⟩: ∃z,z=(Qn t k).num:=⟨_,rfl⟩
        obtain⟨rd',hrd⟩: ∃z,z=((Qn t k).den:Int):=⟨_,rfl⟩
        obtain⟨km,hkm⟩:=HIN.out.2 k C5.out
        rw[← hqn,← hqd,← hrn,← hrd]at hkm
        have HKM:=Aside0.mk (And.intro hkm (And.intro hrn hrd))
        have p8:(0≤ki)=True:=eq_true (by have:=HK.out;omega)
        have p9:(ki<(ml:Int))=True:=eq_true (by have:=HK.out;omega)
        have cellS:=Aside0.mk (show∀w',RJ w0 g n m (fun i' j'=>if i'=t∧j'<2*k then FT Qn i' j' else FT Qo i' j') (.slice (some ⟨gl,0,none⟩) m c5) (upd (El n M0 c).ld c (-1)) b' cc' w'→w'.cell? ⟨g,ti.toNat,none⟩=some (.slice (some ⟨bt,0,none⟩) ml ct)∧w'.cell? ⟨bt,ki.toNat*2,none⟩=some (.int .i64 qn)∧w'.cell? ⟨bt,ki.toNat*2+1,none⟩=some (.int .i64 qd)∧w'.frozen? ⟨bt,ki.toNat*2,none⟩=false∧w'.frozen? ⟨bt,ki.toNat*2+1,none⟩=false from fun w' h=>by
         have h1:=h.tb.num (j:=2*k) HP.out.2.1 (by have:=C5.out;omega)
         have h2:=h.tb.num (j:=2*k+1) HP.out.2.1 (by have:=C5.out;omega)
         rw[if_neg (by omega),FT_num,← hqn]at h1
         rw[if_neg (by omega),FT_den,← hqd]at h2
         refine⟨by rw[HBT.out.1,HBT.out.2,HF.out.2.2.2.2.2.2.2,HF.out.1.2.2.2];exact h.tb.head HP.out.2.1,by rw[bE.out,HBT.out.1];exact h1,by rw[bE.out,HBT.out.1];exact h2,by rw[HBT.out.1];exact h.tb.numZ HP.out.2.1 _,by rw[HBT.out.1];exact h.tb.numZ HP.out.2.1 _⟩)
        clear hkm hqn hqd hrn hrd c6
        go_upto_region 17 with (fail)
        have SS:=Aside0.mk (show∀w',RJ w0 g n m (fun i' j'=>if i'=t∧j'<2*k then FT Qn i' j' else FT Qo i' j') (.slice (some ⟨gl,0,none⟩) m c5) (upd (El n M0 c).ld c (-1)) b' cc' w'→PV w0 n b' gI iu iv w'→_ from fun w' h1 h2=>(⟨(cellS.out w' h1).1,(cellS.out w' h1).2.1,(cellS.out w' h1).2.2.1,h2.cells.1,h2.cells.2⟩:w'.cell? ⟨g,ti.toNat,none⟩=some (.slice (some ⟨bt,0,none⟩) ml ct)∧w'.cell? ⟨bt,ki.toNat*2,none⟩=some (.int .i64 qn)∧w'.cell? ⟨bt,ki.toNat*2+1,none⟩=some (.int .i64 qd)∧w'.cell? ⟨gI,0,none⟩=some (.int .i64 iu)∧w'.cell? ⟨gI,1,none⟩=some (.int .i64 iv)))
        refine start_ (n:=16) (S:=fun w'=>w'.cell? ⟨g,ti.toNat,none⟩=some (.slice (some ⟨bt,0,none⟩) ml ct)∧w'.cell? ⟨bt,ki.toNat*2,none⟩=some (.int .i64 qn)∧w'.cell? ⟨bt,ki.toNat*2+1,none⟩=some (.int .i64 qd)∧w'.cell? ⟨gI,0,none⟩=some (.int .i64 iu)∧w'.cell? ⟨gI,1,none⟩=some (.int .i64 iv)) (ds:=[15]) #[false,false,false,false,false,false,false,false,false,false,false,false,false,false,false,false] (by kernel_rfl) rfl rfl (SS.out _ HL.out.1.drew HL.out.2.drew) (fun hHeld=>?_)
        refine pure_ (i:=0) (N:=some 81) (v:=?_) (a':=?_) #[true,false,false,false,false,false,false,false,false,false,false,false,false,false,false,false] rfl rfl (by kernel_rfl) (fun _ _ _ h=>h) (Or.inl ⟨by rfl,?_⟩) ?_ ?_
        rotate_left
        ·intro w'
         go_simp
         with_reducible rfl
        rotate_left
        ·simp only[Act.put,List.setIfInBounds_toArray,List.set_cons_zero,List.set_cons_succ,i64_w,i32_w]
         rfl
        refine pure_ (i:=1) (N:=some 82) (v:=?_) (a':=?_) #[true,true,false,false,false,false,false,false,false,false,false,false,false,false,false,false] rfl rfl (by kernel_rfl) (fun _ _ _ h=>h) (Or.inl ⟨by rfl,?_⟩) ?_ ?_
        rotate_left
        ·intro w'
         go_simp
         with_reducible rfl
        rotate_left
        ·simp only[Act.put,List.setIfInBounds_toArray,List.set_cons_zero,List.set_cons_succ,i64_w,i32_w]
         rfl
        refine pure_ (i:=2) (N:=some 83) (v:=?_) (a':=?_) #[true,true,true,false,false,false,false,false,false,false,false,false,false,false,false,false] rfl rfl (by kernel_rfl) (fun _ _ _ h=>h) (Or.inl ⟨by rfl,?_⟩) ?_ ?_
        rotate_left
        ·intro w'
         go_simp
         with_reducible rfl
        rotate_left
        ·simp only[Act.put,List.setIfInBounds_toArray,List.set_cons_zero,List.set_cons_succ,i64_w,i32_w]
         rfl
        refine take_ (i:=3) (N:=some 84) (v:=?_) (a':=?_) #[true,true,true,true,false,false,false,false,false,false,false,false,false,false,false,false] rfl rfl (by kernel_rfl) (fun _ _ _ h=>h) (Or.inl ⟨by rfl,?_⟩) hHeld ?_ ?_
        rotate_left
        ·rintro w' ⟨s0,s1,s2,s3,s4⟩
         go_simp
         with_reducible rfl
        rotate_left
        ·simp only[Act.put,List.setIfInBounds_toArray,List.set_cons_zero,List.set_cons_succ,i64_w,i32_w]
         rfl
        refine pure_ (i:=4) (N:=some 85) (v:=?_) (a':=?_) #[true,true,true,true,true,false,false,false,false,false,false,false,false,false,false,false] rfl rfl (by kernel_rfl) (fun _ _ _ h=>h) (Or.inl ⟨by rfl,?_⟩) ?_ ?_
        rotate_left
        ·intro w'
         go_simp
         with_reducible rfl
        rotate_left
        ·simp only[Act.put,List.setIfInBounds_toArray,List.set_cons_zero,List.set_cons_succ,i64_w,i32_w]
         rfl
        refine pure_ (i:=5) (N:=some 86) (v:=?_) (a':=?_) #[true,true,true,true,true,true,false,false,false,false,false,false,false,false,false,false] rfl rfl (by kernel_rfl) (fun _ _ _ h=>h) (Or.inl ⟨by rfl,?_⟩) ?_ ?_
        rotate_left
        ·intro w'
         go_simp
         with_reducible rfl
        rotate_left
        ·simp only[Act.put,List.setIfInBounds_toArray,List.set_cons_zero,List.set_cons_succ,i64_w,i32_w]
         rfl
        refine pure_ (i:=6) (N:=some 87) (v:=?_) (a':=?_) #[true,true,true,true,true,true,true,false,false,false,false,false,false,false,false,false] rfl rfl (by kernel_rfl) (fun _ _ _ h=>h) (Or.inl ⟨by rfl,?_⟩) ?_ ?_
        rotate_left
        ·intro w'
         go_simp
         with_reducible rfl
        rotate_left
        ·simp only[Act.put,List.setIfInBounds_toArray,List.set_cons_zero,List.set_cons_succ,i64_w,i32_w]
         rfl
        refine pure_ (i:=7) (N:=some 88) (v:=?_) (a':=?_) #[true,true,true,true,true,true,true,true,false,false,false,false,false,false,false,false] rfl rfl (by kernel_rfl) (fun _ _ _ h=>h) (Or.inl ⟨by rfl,?_⟩) ?_ ?_
        rotate_left
        ·intro w'
         go_simp
         with_reducible rfl
        rotate_left
        ·simp only[Act.put,List.setIfInBounds_toArray,List.set_cons_zero,List.set_cons_succ,i64_w,i32_w]
         rfl
        refine take_ (i:=8) (N:=some 89) (v:=?_) (a':=?_) #[true,true,true,true,true,true,true,true,true,false,false,false,false,false,false,false] rfl rfl (by kernel_rfl) (fun _ _ _ h=>h) (Or.inl ⟨by rfl,?_⟩) hHeld ?_ ?_
        rotate_left
        ·rintro w' ⟨s0,s1,s2,s3,s4⟩
         go_simp
         with_reducible rfl
        rotate_left
        ·simp only[Act.put,List.setIfInBounds_toArray,List.set_cons_zero,List.set_cons_succ,i64_w,i32_w]
         rfl
        refine pure_ (i:=9) (N:=some 90) (v:=?_) (a':=?_) #[true,true,true,true,true,true,true,true,true,true,false,false,false,false,false,false] rfl rfl (by kernel_rfl) (fun _ _ _ h=>h) (Or.inl ⟨by rfl,?_⟩) ?_ ?_
        rotate_left
        ·intro w'
         go_simp
         with_reducible rfl
        rotate_left
        ·simp only[Act.put,List.setIfInBounds_toArray,List.set_cons_zero,List.set_cons_succ,i64_w,i32_w]
         rfl
        refine pure_ (i:=10) (N:=some 91) (v:=?_) (a':=?_) #[true,true,true,true,true,true,true,true,true,true,true,false,false,false,false,false] rfl rfl (by kernel_rfl) (fun _ _ _ h=>h) (Or.inl ⟨by rfl,?_⟩) ?_ ?_
        rotate_left
        ·intro w'
         go_simp
         with_reducible rfl
        rotate_left
        ·simp only[Act.put,List.setIfInBounds_toArray,List.set_cons_zero,List.set_cons_succ,i64_w,i32_w]
         rfl
        refine take_ (i:=11) (N:=some 92) (v:=?_) (a':=?_) #[true,true,true,true,true,true,true,true,true,true,true,true,false,false,false,false] rfl rfl (by kernel_rfl) (fun _ _ _ h=>h) (Or.inl ⟨by rfl,?_⟩) hHeld ?_ ?_
        rotate_left
        ·rintro w' ⟨s0,s1,s2,s3,s4⟩
         go_simp
         with_reducible rfl
        rotate_left
        ·simp only[Act.put,List.setIfInBounds_toArray,List.set_cons_zero,List.set_cons_succ,i64_w,i32_w]
         rfl
        refine take_ (i:=12) (N:=some 93) (v:=?_) (a':=?_) #[true,true,true,true,true,true,true,true,true,true,true,true,true,false,false,false] rfl rfl (by kernel_rfl) (fun _ _ _ h=>h) (Or.inl ⟨by rfl,?_⟩) hHeld ?_ ?_
        rotate_left
        ·rintro w' ⟨s0,s1,s2,s3,s4⟩
         go_simp
         with_reducible rfl
        rotate_left
        ·simp only[Act.put,List.setIfInBounds_toArray,List.set_cons_zero,List.set_cons_succ,i64_w,i32_w]
         rfl
        obtain⟨bK,HW⟩: ∃z,Aside0 (z=wr.drew):=⟨_,⟨rfl⟩⟩
        have aL:=Aside0.mk (And.intro (HW.out▸HL.out.1.drew:RJ w0 g n m (fun i' j'=>if i'=t∧j'<2*k then FT Qn i' j' else FT Qo i' j') (.slice (some ⟨gl,0,none⟩) m c5) (upd (El n M0 c).ld c (-1)) b' cc' bK) (show PV w0 n b' gI iu iv bK from HW.out▸HL.out.2.drew))
        rw[← HW.out]
        rw[← HW.out]at hHeld
        clear HW HL
        refine one_ (i:=13) (N:=some 94) #[true,true,true,true,true,true,true,true,true,true,true,true,true,true,false,false] rfl rfl (by kernel_rfl) (by decide) (fun K hK=>?_)
        refine goes_ Try.func107 (by kernel_rfl) rfl #[.agg #[.int .i64 qn,.int .i64 qd],.agg #[.int .i64 iu,.int .i64 iv]] (by rfl) rfl rfl (by(try simp only[List.map_toArray,List.map_cons,List.map_nil]);first|done|rfl) ?_
        refine(impl_mulFractions.calls km qn qd iu iv rn rd' bK HKM.out.1).mono ?_
        rintro e bO ⟨rfl,hb⟩
        refine⟨_,rfl,?_⟩
        have aC:=Aside0.mk (And.intro (aL.out.1.below hb) (aL.out.2.below hb))
        refine hK.out _ _ (SS.out _ aC.out.1 aC.out.2) (fun hHeld=>?_)
        clear hK K hb
        refine norm_ (a':=?_) ?_ ?_
        rotate_left
        ·show Act.put _ (some 94) _=_
         simp only[Act.put,List.setIfInBounds_toArray,List.set_cons_zero,List.set_cons_succ,i64_w,i32_w]
         rfl
        refine pure_ (i:=14) (N:=some 95) (v:=?_) (a':=?_) #[true,true,true,true,true,true,true,true,true,true,true,true,true,true,true,false] rfl rfl (by kernel_rfl) (fun _ _ _ h=>h) (Or.inl ⟨by rfl,?_⟩) ?_ ?_
        rotate_left
        ·intro w'
         go_simp
         with_reducible rfl
        rotate_left
        ·simp only[Act.put,List.setIfInBounds_toArray,List.set_cons_zero,List.set_cons_succ,i64_w,i32_w]
         rfl
        obtain⟨_,g1,g2,z1,z2⟩:=cellS.out bO aC.out.1
        refine last_ (i:=15) (N:=none) #[true,true,true,true,true,true,true,true,true,true,true,true,true,true,true,true] rfl rfl (by kernel_rfl) (by decide) (fun K hK=>?_)
        refine skip_ (w1:=?_) (by rfl) rfl ?_ ?_
        rotate_left
        ·go_simp
         rfl
        refine hK.out _ _ ?_
        clear hK K
        refine done_ (by kernel_rfl) ?_
        clear hHeld g1 g2 z1 z2 SS
        obtain⟨bY,HW⟩: ∃z,Aside0 (z=(bO.setCell ⟨bt,ki.toNat*2,none⟩ (.int .i64 rn)).setCell ⟨bt,ki.toNat*2+1,none⟩ (.int .i64 rd')):=⟨_,⟨rfl⟩⟩
        rw[← HW.out]
        have bA:=Aside0.mk (show RJ w0 g n m (fun i' j'=>if i'=t∧j'<2*(k+1)then FT Qn i' j' else FT Qo i' j') (.slice (some ⟨gl,0,none⟩) m c5) (upd (El n M0 c).ld c (-1)) b' cc' bY∧PV w0 n b' gI iu iv bY from by
         rw[HW.out,HBT.out.1,bE.out]
         refine⟨((aC.out.1.put HP.out.2.1 rn).put HP.out.2.1 rd').congr (fun i' j' _ _=>?_),(aC.out.2.put HP.out.2.1 _ _).put HP.out.2.1 _ _⟩
         by_cases e1:i'=t∧j'=2*k+1
         ·rw[if_pos e1,if_pos ⟨e1.1,by omega⟩,e1.1,e1.2,FT_den];exact HKM.out.2.2
         ·rw[if_neg e1]
          by_cases e2:i'=t∧j'=2*k
          ·rw[if_pos e2,if_pos ⟨e2.1,by omega⟩,e2.1,e2.2,FT_num];exact HKM.out.2.1
          ·rw[if_neg e2]
           by_cases e3:i'=t∧j'<2*k
           ·rw[if_pos e3,if_pos ⟨e3.1,by omega⟩]
           ·rw[if_neg e3,if_neg (by omega)])
        clear HW aC aL
        go_wp2_with (fail)
        go_roundg gs
        case measure=>omega
        case rel=>
         have h1:=HK.out;have h2:=C5.out;have h3:=H0.out.2.1;have h4:=HF.out.1.2.2.2
         have hw:=wrap_id (ki+1) (by omega) (by omega)
         exact⟨k+1,ki+1,by rw[hw],⟨by omega,by omega,by omega⟩,bA⟩
       ·have C5:=Aside0.mk (show k=ml from by have:=HK.out;omega)
        have d3:decide (ki<(ml:Int))=false:=decide_eq_false (by have:=HK.out;have:=C5.out;omega)
        clear c6
        have cC:=Aside0.mk (show RJ w0 g n m (fun i' j'=>if i'<0∨i'=t then FT Qn i' j' else FT Qo i' j') (.slice (some ⟨gl,0,none⟩) m c5) (upd (El n M0 c).ld c (-1)) b' cc' wr from HL.out.1.congr (fun i' j' _ hj'=>by
         have:=C5.out;have:=HF.out.1
         by_cases e:i'=t
         ·rw[if_pos ⟨e,by omega⟩,if_pos (.inr e)]
         ·rw[if_neg (fun z=>e z.1),if_neg (by omega)]))
        clear HL
        go_wp2_with (fail)
        go_loopg [99] (n+1) (fun kq cE w'=>∃(r:Nat) (ri:Int),cE= .int .i64 ri∧Aside0 (ri=(r:Int)∧r+kq=n+1∧1≤kq)∧Aside0 (RJ w0 g n m (fun i' j'=>if i'<r∨i'=t then FT Qn i' j' else FT Qo i' j') (.slice (some ⟨gl,0,none⟩) m c5) (upd (El n M0 c).ld c (-1)) b' cc' w'))
        case atStart=>exact⟨0,0,rfl,⟨rfl,by omega,by omega⟩,cC⟩
        case round=>
         obtain⟨r,ri,rfl,HR,HL⟩:=hrel
         obtain⟨gu,rfl⟩: ∃k,gk=k+1:=⟨gk - 1,by have:=HR.out;omega⟩
         by_cases c7:r<n
         ·have d4:decide (ri<(n:Int))=true:=decide_eq_true (by have:=HR.out;omega)
          have p8:(0≤ri)=True:=eq_true (by have:=HR.out;omega)
          have p9:(ri<(n:Int))=True:=eq_true (by have:=HR.out;omega)
          have bM:ri.toNat=r:=by have:=HR.out;omega
          have bX:=Aside0.mk bM
          obtain⟨br,hbr⟩: ∃z,z=b' r:=⟨_,rfl⟩
          obtain⟨cr,hcr⟩: ∃z,z=cc' r:=⟨_,rfl⟩
          obtain⟨un,hun⟩: ∃z,z=(if r<r∨r=t then FT Qn r (2*c)else FT Qo r (2*c)):=⟨_,rfl⟩
          obtain⟨ud,hud⟩: ∃z,z=(if r<r∨r=t then FT Qn r (2*c+1)else FT Qo r (2*c+1)):=⟨_,rfl⟩
          have HU:=Aside0.mk (And.intro hun (And.intro hud (And.intro hbr hcr)))
          have C7:=Aside0.mk c7
          have g0:wr.cell? ⟨g,ri.toNat,none⟩=some (.slice (some ⟨br,0,none⟩) ml cr):=by rw[hbr,hcr,bM,HF.out.1.2.2.2];exact HL.out.tb.head c7
          have g1:wr.cell? ⟨br,ci.toNat*2,none⟩=some (.int .i64 un):=by rw[hbr,hun,aE.out.2];exact HL.out.tb.num (j:=2*c) c7 (by have:=C1.out;omega)
          have g2:wr.cell? ⟨br,ci.toNat*2+1,none⟩=some (.int .i64 ud):=by rw[hbr,hud,aE.out.2];exact HL.out.tb.num (j:=2*c+1) c7 (by have:=C1.out;omega)
          clear c7 hun hud hbr hcr bM
          go_upto_region 23 with (fail)
          obtain⟨gF,hgF⟩: ∃z,z=wr.heap.size:=⟨_,rfl⟩
          obtain⟨bB,aF⟩: ∃z,z=wr.alloc (.cells #[.int .i64 un,.int .i64 ud] 142 (0,0)):=⟨_,rfl⟩
          rw[← hgF,← aF]
          have aA:=Aside0.mk (show RJ w0 g n m (fun i' j'=>if i'<r∨i'=t then FT Qn i' j' else FT Qo i' j') (.slice (some ⟨gl,0,none⟩) m c5) (upd (El n M0 c).ld c (-1)) b' cc' bB∧PV w0 n b' gF un ud bB from⟨aF▸HL.out.alloc _,by rw[aF,hgF];exact alloc_at _ _,fun i hi e=>by have:=HL.out.rows_lt.1 i hi;omega,by rw[hgF];exact HL.out.bw.size⟩)
          clear hgF aF HL g0 g1 g2
          have f0:=aA.out.2.cells.1
          have f1:=aA.out.2.cells.2
          by_cases c8:r=t
          ·have b3:(ri == ti)=true:=beq_iff_eq.mpr (by have:=HR.out;have:=HA.out;have:=HF.out.1.1;omega)
           have C8:=Aside0.mk c8
           clear c8
           go_wp2_with (fail)
           go_roundg gu
           case measure=>omega
           case rel=>
            have h1:=HR.out;have h2:=C7.out;have h3:=H0.out.1.n6
            have hw:=wrap_id (ri+1) (by omega) (by omega)
            refine⟨r+1,ri+1,by rw[hw],⟨by omega,by omega,by omega⟩,⟨aA.out.1.congr (fun i' j' _ _=>?_)⟩⟩
            have h4:=C8.out
            by_cases e:i'<r∨i'=t
            ·rw[if_pos e,if_pos (by omega)]
            ·rw[if_neg e,if_neg (by omega)]
          ·have b3:(ri == ti)=false:=beq_eq_false_iff_ne.mpr (by have:=HR.out;have:=HA.out;have:=HF.out.1.1;omega)
           have aH:=Aside0.mk (show un=(Qo r c).num∧ud=((Qo r c).den:Int)∧r≠t∧un.natAbs≤268738560 from by
            have h1:=HU.out.1;have h2:=HU.out.2.1
            rw[if_neg (by omega),FT_num]at h1
            rw[if_neg (by omega),FT_den]at h2
            exact⟨h1,h2,c8,by rw[h1];exact HSF.out.neg r C7.out⟩)
           clear c8
           by_cases c9:un=0
           ·have b4:(un == 0)=true:=beq_iff_eq.mpr c9
            have C9:=Aside0.mk c9
            clear c9
            go_wp2_with (fail)
            go_roundg gu
            case measure=>omega
            case rel=>
             have h1:=HR.out;have h2:=C7.out;have h3:=H0.out.1.n6
             have hw:=wrap_id (ri+1) (by omega) (by omega)
             refine⟨r+1,ri+1,by rw[hw],⟨by omega,by omega,by omega⟩,⟨aA.out.1.congr (fun i' j' _ hj'=>?_)⟩⟩
             by_cases e:i'<r∨i'=t
             ·rw[if_pos e,if_pos (by omega)]
             ·rw[if_neg e]
              by_cases e2:i'=r
              ·rw[if_pos (by omega),e2]
               have hz: ∀j,j≤m→Qn r j=Qo r j:=fun j hj=>HSF.out.zero r j C7.out hj aH.out.2.2.1 (by rw[← aH.out.1];exact C9.out)
               unfold FT
               rw[hz (j' / 2) (by omega)]
              ·rw[if_neg (by omega)]
           ·have b4:(un == 0)=false:=beq_eq_false_iff_ne.mpr c9
            have zF:=blk_frozen aA.out.2.blk 0
            obtain⟨nu,hnu⟩: ∃z,z= -un:=⟨_,rfl⟩
            have hwu:wrap64 (-un)=nu:=by rw[hnu];exact wrap_id _ (by have:=aH.out;omega) (by have:=aH.out;omega)
            have bH:IntKind.i64.wrap (-un)=nu:=(i64_w _).trans hwu
            have HNU:=Aside0.mk (show nu= -(Qo r c).num from by rw[hnu,aH.out.1])
            clear c9 hnu
            go_upto_region 25 with (fail)
            obtain⟨bD,aG⟩: ∃z,z=bB.setCell ⟨gF,0,none⟩ (.int .i64 nu):=⟨_,rfl⟩
            rw[← aG]
            have aK:=Aside0.mk (show RJ w0 g n m (fun i' j'=>if i'<r∨i'=t then FT Qn i' j' else FT Qo i' j') (.slice (some ⟨gl,0,none⟩) m c5) (upd (El n M0 c).ld c (-1)) b' cc' bD∧PV w0 n b' gF nu ud bD from by
             have h:=blk_set aA.out.2.blk 0 (.int .i64 nu)
             rw[← aG]at h
             exact⟨by rw[aG];exact aA.out.1.away aA.out.2.blk aA.out.2.ge aA.out.2.ap 0 _,by simpa using h,aA.out.2.ap,aA.out.2.ge⟩)
            clear aG aA f0 f1 zF hwu bH
            have g0:bD.cell? ⟨g,ri.toNat,none⟩=some (.slice (some ⟨br,0,none⟩) ml cr):=by rw[HU.out.2.2.1,HU.out.2.2.2,bX.out,HF.out.1.2.2.2];exact aK.out.1.tb.head C7.out
            go_wp2_with (fail)
            go_loopg [126] (ml+1) (fun kq bF w'=>∃(k:Nat) (ki:Int),bF= .int .i64 ki∧Aside0 (ki=(k:Int)∧k+kq=ml+1∧1≤kq)∧Aside0 (RJ w0 g n m (fun i' j'=>if i'<r∨i'=t∨(i'=r∧j'<2*k)then FT Qn i' j' else FT Qo i' j') (.slice (some ⟨gl,0,none⟩) m c5) (upd (El n M0 c).ld c (-1)) b' cc' w'∧PV w0 n b' gF nu ud w'))
            case atStart=>exact⟨0,0,rfl,⟨rfl,by omega,by omega⟩,⟨aK.out.1.congr (fun i' j' _ _=>by
             by_cases e:i'<r∨i'=t
             ·rw[if_pos e,if_pos (by omega)]
             ·rw[if_neg e,if_neg (by omega)]),aK.out.2⟩⟩
            case round=>
             obtain⟨k,ki,rfl,HK',HL⟩:=hrel
             obtain⟨gs',rfl⟩: ∃k,gk=k+1:=⟨gk - 1,by have:=HK'.out;omega⟩
             have aN:ki.toNat*2=2*k:=by have:=HK'.out;omega
             have HK2':=Aside0.mk aN
             clear aN g0
             by_cases c6:k<ml
             ·have d5:decide (ki<(ml:Int))=true:=decide_eq_true (by have:=HK'.out;omega)
              have C6:=Aside0.mk (show k≤m from by have:=HF.out.1;omega)
              obtain⟨qn,hqn⟩: ∃z,z=(Qo r k).num:=⟨_,rfl⟩
              obtain⟨qd,hqd⟩: ∃z,z=((Qo r k).den:Int):=⟨_,rfl⟩
              obtain⟨tn,htn⟩: ∃z,z=(Qn t k).num:=⟨_,rfl⟩
              obtain⟨td,htd⟩: ∃z,z=((Qn t k).den:Int):=⟨_,rfl⟩
              obtain⟨rn,hrn⟩: ∃z,z=(Qn r k).num:=⟨_,rfl⟩
              obtain⟨rd',hrd⟩: ∃z,z=((Qn r k).den:Int):=⟨_,rfl⟩
              obtain⟨sq,km,ka,hkm,hka⟩:=HSF.out.row r k C7.out C6.out aH.out.2.2.1
              obtain⟨sn,hsn⟩: ∃z,z=sq.num:=⟨_,rfl⟩
              obtain⟨sd,hsd⟩: ∃z,z=(sq.den:Int):=⟨_,rfl⟩
              rw[← HNU.out,← aH.out.2.1,← htn,← htd,← hsn,← hsd]at hkm
              rw[← hqn,← hqd,← hsn,← hsd,← hrn,← hrd]at hka
              have HKM:=Aside0.mk (And.intro hkm (And.intro hka (And.intro hrn hrd)))
              have cI:(0≤ki)=True:=eq_true (by have:=HK'.out;omega)
              have cG:(ki<(ml:Int))=True:=eq_true (by have:=HK'.out;omega)
              have cellS:=Aside0.mk (show∀w',RJ w0 g n m (fun i' j'=>if i'<r∨i'=t∨(i'=r∧j'<2*k)then FT Qn i' j' else FT Qo i' j') (.slice (some ⟨gl,0,none⟩) m c5) (upd (El n M0 c).ld c (-1)) b' cc' w'→w'.cell? ⟨g,ri.toNat,none⟩=some (.slice (some ⟨br,0,none⟩) ml cr)∧w'.cell? ⟨g,ti.toNat,none⟩=some (.slice (some ⟨bt,0,none⟩) ml ct)∧w'.cell? ⟨br,ki.toNat*2,none⟩=some (.int .i64 qn)∧w'.cell? ⟨br,ki.toNat*2+1,none⟩=some (.int .i64 qd)∧w'.cell? ⟨bt,ki.toNat*2,none⟩=some (.int .i64 tn)∧w'.cell? ⟨bt,ki.toNat*2+1,none⟩=some (.int .i64 td)∧w'.frozen? ⟨br,ki.toNat*2,none⟩=false∧w'.frozen? ⟨br,ki.toNat*2+1,none⟩=false from fun w' h=>by
               have hne:=aH.out.2.2.1
               have h1:=h.tb.num (j:=2*k) C7.out (by have:=C6.out;omega)
               have h2:=h.tb.num (j:=2*k+1) C7.out (by have:=C6.out;omega)
               have h3:=h.tb.num (j:=2*k) HP.out.2.1 (by have:=C6.out;omega)
               have h4:=h.tb.num (j:=2*k+1) HP.out.2.1 (by have:=C6.out;omega)
               rw[if_neg (by omega),FT_num,← hqn]at h1
               rw[if_neg (by omega),FT_den,← hqd]at h2
               rw[if_pos (by omega),FT_num,← htn]at h3
               rw[if_pos (by omega),FT_den,← htd]at h4
               refine⟨by rw[HU.out.2.2.1,HU.out.2.2.2,bX.out,HF.out.1.2.2.2];exact h.tb.head C7.out,by rw[HBT.out.1,HBT.out.2,HF.out.2.2.2.2.2.2.2,HF.out.1.2.2.2];exact h.tb.head HP.out.2.1,by rw[HK2'.out,HU.out.2.2.1];exact h1,by rw[HK2'.out,HU.out.2.2.1];exact h2,by rw[HK2'.out,HBT.out.1];exact h3,by rw[HK2'.out,HBT.out.1];exact h4,by rw[HU.out.2.2.1];exact h.tb.numZ C7.out _,by rw[HU.out.2.2.1];exact h.tb.numZ C7.out _⟩)
              clear hkm hka hqn hqd htn htd hrn hrd hsn hsd c6
              go_upto_region 28 with (fail)
              have SS:=Aside0.mk (show∀w',RJ w0 g n m (fun i' j'=>if i'<r∨i'=t∨(i'=r∧j'<2*k)then FT Qn i' j' else FT Qo i' j') (.slice (some ⟨gl,0,none⟩) m c5) (upd (El n M0 c).ld c (-1)) b' cc' w'→PV w0 n b' gF nu ud w'→_ from fun w' h1 h2=>(by obtain⟨a1,a2,a3,a4,a5,a6,_,_⟩:=cellS.out w' h1;exact⟨a1,a2,a3,a4,a5,a6,h2.cells.1,h2.cells.2⟩:w'.cell? ⟨g,ri.toNat,none⟩=some (.slice (some ⟨br,0,none⟩) ml cr)∧w'.cell? ⟨g,ti.toNat,none⟩=some (.slice (some ⟨bt,0,none⟩) ml ct)∧w'.cell? ⟨br,ki.toNat*2,none⟩=some (.int .i64 qn)∧w'.cell? ⟨br,ki.toNat*2+1,none⟩=some (.int .i64 qd)∧w'.cell? ⟨bt,ki.toNat*2,none⟩=some (.int .i64 tn)∧w'.cell? ⟨bt,ki.toNat*2+1,none⟩=some (.int .i64 td)∧w'.cell? ⟨gF,0,none⟩=some (.int .i64 nu)∧w'.cell? ⟨gF,1,none⟩=some (.int .i64 ud)))
              refine start_ (n:=24) (S:=fun w'=>w'.cell? ⟨g,ri.toNat,none⟩=some (.slice (some ⟨br,0,none⟩) ml cr)∧w'.cell? ⟨g,ti.toNat,none⟩=some (.slice (some ⟨bt,0,none⟩) ml ct)∧w'.cell? ⟨br,ki.toNat*2,none⟩=some (.int .i64 qn)∧w'.cell? ⟨br,ki.toNat*2+1,none⟩=some (.int .i64 qd)∧w'.cell? ⟨bt,ki.toNat*2,none⟩=some (.int .i64 tn)∧w'.cell? ⟨bt,ki.toNat*2+1,none⟩=some (.int .i64 td)∧w'.cell? ⟨gF,0,none⟩=some (.int .i64 nu)∧w'.cell? ⟨gF,1,none⟩=some (.int .i64 ud)) (ds:=[23]) #[false,false,false,false,false,false,false,false,false,false,false,false,false,false,false,false,false,false,false,false,false,false,false,false] (by kernel_rfl) rfl rfl (SS.out _ HL.out.1.drew HL.out.2.drew) (fun hHeld=>?_)
              refine pure_ (i:=0) (N:=some 129) (v:=?_) (a':=?_) #[true,false,false,false,false,false,false,false,false,false,false,false,false,false,false,false,false,false,false,false,false,false,false,false] rfl rfl (by kernel_rfl) (fun _ _ _ h=>h) (Or.inl ⟨by rfl,?_⟩) ?_ ?_
              rotate_left
              ·intro w'
               go_simp
               with_reducible rfl
              rotate_left
              ·simp only[Act.put,List.setIfInBounds_toArray,List.set_cons_zero,List.set_cons_succ,i64_w,i32_w]
               rfl
              refine pure_ (i:=1) (N:=some 130) (v:=?_) (a':=?_) #[true,true,false,false,false,false,false,false,false,false,false,false,false,false,false,false,false,false,false,false,false,false,false,false] rfl rfl (by kernel_rfl) (fun _ _ _ h=>h) (Or.inl ⟨by rfl,?_⟩) ?_ ?_
              rotate_left
              ·intro w'
               go_simp
               with_reducible rfl
              rotate_left
              ·simp only[Act.put,List.setIfInBounds_toArray,List.set_cons_zero,List.set_cons_succ,i64_w,i32_w]
               rfl
              refine pure_ (i:=2) (N:=some 131) (v:=?_) (a':=?_) #[true,true,true,false,false,false,false,false,false,false,false,false,false,false,false,false,false,false,false,false,false,false,false,false] rfl rfl (by kernel_rfl) (fun _ _ _ h=>h) (Or.inl ⟨by rfl,?_⟩) ?_ ?_
              rotate_left
              ·intro w'
               go_simp
               with_reducible rfl
              rotate_left
              ·simp only[Act.put,List.setIfInBounds_toArray,List.set_cons_zero,List.set_cons_succ,i64_w,i32_w]
               rfl
              refine take_ (i:=3) (N:=some 132) (v:=?_) (a':=?_) #[true,true,true,true,false,false,false,false,false,false,false,false,false,false,false,false,false,false,false,false,false,false,false,false] rfl rfl (by kernel_rfl) (fun _ _ _ h=>h) (Or.inl ⟨by rfl,?_⟩) hHeld ?_ ?_
              rotate_left
              ·rintro w' ⟨s0,s1,s2,s3,s4,s5,s6,s7⟩
               go_simp
               with_reducible rfl
              rotate_left
              ·simp only[Act.put,List.setIfInBounds_toArray,List.set_cons_zero,List.set_cons_succ,i64_w,i32_w]
               rfl
              refine pure_ (i:=4) (N:=some 133) (v:=?_) (a':=?_) #[true,true,true,true,true,false,false,false,false,false,false,false,false,false,false,false,false,false,false,false,false,false,false,false] rfl rfl (by kernel_rfl) (fun _ _ _ h=>h) (Or.inl ⟨by rfl,?_⟩) ?_ ?_
              rotate_left
              ·intro w'
               go_simp
               with_reducible rfl
              rotate_left
              ·simp only[Act.put,List.setIfInBounds_toArray,List.set_cons_zero,List.set_cons_succ,i64_w,i32_w]
               rfl
              refine pure_ (i:=5) (N:=some 134) (v:=?_) (a':=?_) #[true,true,true,true,true,true,false,false,false,false,false,false,false,false,false,false,false,false,false,false,false,false,false,false] rfl rfl (by kernel_rfl) (fun _ _ _ h=>h) (Or.inl ⟨by rfl,?_⟩) ?_ ?_
              rotate_left
              ·intro w'
               go_simp
               with_reducible rfl
              rotate_left
              ·simp only[Act.put,List.setIfInBounds_toArray,List.set_cons_zero,List.set_cons_succ,i64_w,i32_w]
               rfl
              refine pure_ (i:=6) (N:=some 135) (v:=?_) (a':=?_) #[true,true,true,true,true,true,true,false,false,false,false,false,false,false,false,false,false,false,false,false,false,false,false,false] rfl rfl (by kernel_rfl) (fun _ _ _ h=>h) (Or.inl ⟨by rfl,?_⟩) ?_ ?_
              rotate_left
              ·intro w'
               go_simp
               with_reducible rfl
              rotate_left
              ·simp only[Act.put,List.setIfInBounds_toArray,List.set_cons_zero,List.set_cons_succ,i64_w,i32_w]
               rfl
              refine pure_ (i:=7) (N:=some 136) (v:=?_) (a':=?_) #[true,true,true,true,true,true,true,true,false,false,false,false,false,false,false,false,false,false,false,false,false,false,false,false] rfl rfl (by kernel_rfl) (fun _ _ _ h=>h) (Or.inl ⟨by rfl,?_⟩) ?_ ?_
              rotate_left
              ·intro w'
               go_simp
               with_reducible rfl
              rotate_left
              ·simp only[Act.put,List.setIfInBounds_toArray,List.set_cons_zero,List.set_cons_succ,i64_w,i32_w]
               rfl
              refine take_ (i:=8) (N:=some 137) (v:=?_) (a':=?_) #[true,true,true,true,true,true,true,true,true,false,false,false,false,false,false,false,false,false,false,false,false,false,false,false] rfl rfl (by kernel_rfl) (fun _ _ _ h=>h) (Or.inl ⟨by rfl,?_⟩) hHeld ?_ ?_
              rotate_left
              ·rintro w' ⟨s0,s1,s2,s3,s4,s5,s6,s7⟩
               go_simp
               with_reducible rfl
              rotate_left
              ·simp only[Act.put,List.setIfInBounds_toArray,List.set_cons_zero,List.set_cons_succ,i64_w,i32_w]
               rfl
              refine pure_ (i:=9) (N:=some 138) (v:=?_) (a':=?_) #[true,true,true,true,true,true,true,true,true,true,false,false,false,false,false,false,false,false,false,false,false,false,false,false] rfl rfl (by kernel_rfl) (fun _ _ _ h=>h) (Or.inl ⟨by rfl,?_⟩) ?_ ?_
              rotate_left
              ·intro w'
               go_simp
               with_reducible rfl
              rotate_left
              ·simp only[Act.put,List.setIfInBounds_toArray,List.set_cons_zero,List.set_cons_succ,i64_w,i32_w]
               rfl
              refine pure_ (i:=10) (N:=some 139) (v:=?_) (a':=?_) #[true,true,true,true,true,true,true,true,true,true,true,false,false,false,false,false,false,false,false,false,false,false,false,false] rfl rfl (by kernel_rfl) (fun _ _ _ h=>h) (Or.inl ⟨by rfl,?_⟩) ?_ ?_
              rotate_left
              ·intro w'
               go_simp
               with_reducible rfl
              rotate_left
              ·simp only[Act.put,List.setIfInBounds_toArray,List.set_cons_zero,List.set_cons_succ,i64_w,i32_w]
               rfl
              refine take_ (i:=11) (N:=some 140) (v:=?_) (a':=?_) #[true,true,true,true,true,true,true,true,true,true,true,true,false,false,false,false,false,false,false,false,false,false,false,false] rfl rfl (by kernel_rfl) (fun _ _ _ h=>h) (Or.inl ⟨by rfl,?_⟩) hHeld ?_ ?_
              rotate_left
              ·rintro w' ⟨s0,s1,s2,s3,s4,s5,s6,s7⟩
               go_simp
               with_reducible rfl
              rotate_left
              ·simp only[Act.put,List.setIfInBounds_toArray,List.set_cons_zero,List.set_cons_succ,i64_w,i32_w]
               rfl
              refine take_ (i:=12) (N:=some 141) (v:=?_) (a':=?_) #[true,true,true,true,true,true,true,true,true,true,true,true,true,false,false,false,false,false,false,false,false,false,false,false] rfl rfl (by kernel_rfl) (fun _ _ _ h=>h) (Or.inl ⟨by rfl,?_⟩) hHeld ?_ ?_
              rotate_left
              ·rintro w' ⟨s0,s1,s2,s3,s4,s5,s6,s7⟩
               go_simp
               with_reducible rfl
              rotate_left
              ·simp only[Act.put,List.setIfInBounds_toArray,List.set_cons_zero,List.set_cons_succ,i64_w,i32_w]
               rfl
              refine pure_ (i:=13) (N:=some 142) (v:=?_) (a':=?_) #[true,true,true,true,true,true,true,true,true,true,true,true,true,true,false,false,false,false,false,false,false,false,false,false] rfl rfl (by kernel_rfl) (fun _ _ _ h=>h) (Or.inl ⟨by rfl,?_⟩) ?_ ?_
              rotate_left
              ·intro w'
               go_simp
               with_reducible rfl
              rotate_left
              ·simp only[Act.put,List.setIfInBounds_toArray,List.set_cons_zero,List.set_cons_succ,i64_w,i32_w]
               rfl
              refine pure_ (i:=14) (N:=some 143) (v:=?_) (a':=?_) #[true,true,true,true,true,true,true,true,true,true,true,true,true,true,true,false,false,false,false,false,false,false,false,false] rfl rfl (by kernel_rfl) (fun _ _ _ h=>h) (Or.inl ⟨by rfl,?_⟩) ?_ ?_
              rotate_left
              ·intro w'
               go_simp
               with_reducible rfl
              rotate_left
              ·simp only[Act.put,List.setIfInBounds_toArray,List.set_cons_zero,List.set_cons_succ,i64_w,i32_w]
               rfl
              refine pure_ (i:=15) (N:=some 144) (v:=?_) (a':=?_) #[true,true,true,true,true,true,true,true,true,true,true,true,true,true,true,true,false,false,false,false,false,false,false,false] rfl rfl (by kernel_rfl) (fun _ _ _ h=>h) (Or.inl ⟨by rfl,?_⟩) ?_ ?_
              rotate_left
              ·intro w'
               go_simp
               with_reducible rfl
              rotate_left
              ·simp only[Act.put,List.setIfInBounds_toArray,List.set_cons_zero,List.set_cons_succ,i64_w,i32_w]
               rfl
              refine take_ (i:=16) (N:=some 145) (v:=?_) (a':=?_) #[true,true,true,true,true,true,true,true,true,true,true,true,true,true,true,true,true,false,false,false,false,false,false,false] rfl rfl (by kernel_rfl) (fun _ _ _ h=>h) (Or.inl ⟨by rfl,?_⟩) hHeld ?_ ?_
              rotate_left
              ·rintro w' ⟨s0,s1,s2,s3,s4,s5,s6,s7⟩
               go_simp
               with_reducible rfl
              rotate_left
              ·simp only[Act.put,List.setIfInBounds_toArray,List.set_cons_zero,List.set_cons_succ,i64_w,i32_w]
               rfl
              refine pure_ (i:=17) (N:=some 146) (v:=?_) (a':=?_) #[true,true,true,true,true,true,true,true,true,true,true,true,true,true,true,true,true,true,false,false,false,false,false,false] rfl rfl (by kernel_rfl) (fun _ _ _ h=>h) (Or.inl ⟨by rfl,?_⟩) ?_ ?_
              rotate_left
              ·intro w'
               go_simp
               with_reducible rfl
              rotate_left
              ·simp only[Act.put,List.setIfInBounds_toArray,List.set_cons_zero,List.set_cons_succ,i64_w,i32_w]
               rfl
              refine pure_ (i:=18) (N:=some 147) (v:=?_) (a':=?_) #[true,true,true,true,true,true,true,true,true,true,true,true,true,true,true,true,true,true,true,false,false,false,false,false] rfl rfl (by kernel_rfl) (fun _ _ _ h=>h) (Or.inl ⟨by rfl,?_⟩) ?_ ?_
              rotate_left
              ·intro w'
               go_simp
               with_reducible rfl
              rotate_left
              ·simp only[Act.put,List.setIfInBounds_toArray,List.set_cons_zero,List.set_cons_succ,i64_w,i32_w]
               rfl
              refine take_ (i:=19) (N:=some 148) (v:=?_) (a':=?_) #[true,true,true,true,true,true,true,true,true,true,true,true,true,true,true,true,true,true,true,true,false,false,false,false] rfl rfl (by kernel_rfl) (fun _ _ _ h=>h) (Or.inl ⟨by rfl,?_⟩) hHeld ?_ ?_
              rotate_left
              ·rintro w' ⟨s0,s1,s2,s3,s4,s5,s6,s7⟩
               go_simp
               with_reducible rfl
              rotate_left
              ·simp only[Act.put,List.setIfInBounds_toArray,List.set_cons_zero,List.set_cons_succ,i64_w,i32_w]
               rfl
              obtain⟨bC,HW⟩: ∃z,Aside0 (z=wr.drew):=⟨_,⟨rfl⟩⟩
              have aI:=Aside0.mk (And.intro (HW.out▸HL.out.1.drew:RJ w0 g n m (fun i' j'=>if i'<r∨i'=t∨(i'=r∧j'<2*k)then FT Qn i' j' else FT Qo i' j') (.slice (some ⟨gl,0,none⟩) m c5) (upd (El n M0 c).ld c (-1)) b' cc' bC) (show PV w0 n b' gF nu ud bC from HW.out▸HL.out.2.drew))
              rw[← HW.out]
              rw[← HW.out]at hHeld
              clear HW HL
              refine one_ (i:=20) (N:=some 149) #[true,true,true,true,true,true,true,true,true,true,true,true,true,true,true,true,true,true,true,true,true,false,false,false] rfl rfl (by kernel_rfl) (by decide) (fun K hK=>?_)
              refine goes_ Try.func107 (by kernel_rfl) rfl #[.agg #[.int .i64 nu,.int .i64 ud],.agg #[.int .i64 tn,.int .i64 td]] (by rfl) rfl rfl (by(try simp only[List.map_toArray,List.map_cons,List.map_nil]);first|done|rfl) ?_
              refine(impl_mulFractions.calls km nu ud tn td sn sd bC HKM.out.1).mono ?_
              rintro e bZ ⟨rfl,hb⟩
              refine⟨_,rfl,?_⟩
              have aD:=Aside0.mk (And.intro (aI.out.1.below hb) (aI.out.2.below hb))
              refine hK.out _ _ (SS.out _ aD.out.1 aD.out.2) (fun hHeld=>?_)
              clear hK K hb aI
              refine norm_ (a':=?_) ?_ ?_
              rotate_left
              ·show Act.put _ (some 149) _=_
               simp only[Act.put,List.setIfInBounds_toArray,List.set_cons_zero,List.set_cons_succ,i64_w,i32_w]
               rfl
              refine one_ (i:=21) (N:=some 150) #[true,true,true,true,true,true,true,true,true,true,true,true,true,true,true,true,true,true,true,true,true,true,false,false] rfl rfl (by kernel_rfl) (by decide) (fun K hK=>?_)
              refine goes_ Try.func108 (by kernel_rfl) rfl #[.agg #[.int .i64 qn,.int .i64 qd],.agg #[.int .i64 sn,.int .i64 sd]] (by rfl) rfl rfl (by(try simp only[List.map_toArray,List.map_cons,List.map_nil]);first|done|rfl) ?_
              refine(impl_addFractions.calls ka qn qd sn sd rn rd' bZ HKM.out.2.1).mono ?_
              rintro e bR ⟨rfl,hb⟩
              refine⟨_,rfl,?_⟩
              have aB:=Aside0.mk (And.intro (aD.out.1.below hb) (aD.out.2.below hb))
              refine hK.out _ _ (SS.out _ aB.out.1 aB.out.2) (fun hHeld=>?_)
              clear hK K hb
              refine norm_ (a':=?_) ?_ ?_
              rotate_left
              ·show Act.put _ (some 150) _=_
               simp only[Act.put,List.setIfInBounds_toArray,List.set_cons_zero,List.set_cons_succ,i64_w,i32_w]
               rfl
              refine pure_ (i:=22) (N:=some 151) (v:=?_) (a':=?_) #[true,true,true,true,true,true,true,true,true,true,true,true,true,true,true,true,true,true,true,true,true,true,true,false] rfl rfl (by kernel_rfl) (fun _ _ _ h=>h) (Or.inl ⟨by rfl,?_⟩) ?_ ?_
              rotate_left
              ·intro w'
               go_simp
               with_reducible rfl
              rotate_left
              ·simp only[Act.put,List.setIfInBounds_toArray,List.set_cons_zero,List.set_cons_succ,i64_w,i32_w]
               rfl
              obtain⟨_,_,g1,g2,_,_,z1,z2⟩:=cellS.out bR aB.out.1
              refine last_ (i:=23) (N:=none) #[true,true,true,true,true,true,true,true,true,true,true,true,true,true,true,true,true,true,true,true,true,true,true,true] rfl rfl (by kernel_rfl) (by decide) (fun K hK=>?_)
              refine skip_ (w1:=?_) (by rfl) rfl ?_ ?_
              rotate_left
              ·go_simp
               rfl
              refine hK.out _ _ ?_
              clear hK K
              refine done_ (by kernel_rfl) ?_
              clear hHeld g1 g2 z1 z2 SS
              obtain⟨bW,HW⟩: ∃z,Aside0 (z=(bR.setCell ⟨br,ki.toNat*2,none⟩ (.int .i64 rn)).setCell ⟨br,ki.toNat*2+1,none⟩ (.int .i64 rd')):=⟨_,⟨rfl⟩⟩
              rw[← HW.out]
              have bL:=Aside0.mk (show RJ w0 g n m (fun i' j'=>if i'<r∨i'=t∨(i'=r∧j'<2*(k+1))then FT Qn i' j' else FT Qo i' j') (.slice (some ⟨gl,0,none⟩) m c5) (upd (El n M0 c).ld c (-1)) b' cc' bW∧PV w0 n b' gF nu ud bW from by
               rw[HW.out,HU.out.2.2.1,HK2'.out]
               refine⟨((aB.out.1.put C7.out rn).put C7.out rd').congr (fun i' j' _ _=>?_),(aB.out.2.put C7.out _ _).put C7.out _ _⟩
               by_cases e1:i'=r∧j'=2*k+1
               ·rw[if_pos e1,if_pos (by omega),e1.1,e1.2,FT_den];exact HKM.out.2.2.2
               ·rw[if_neg e1]
                by_cases e2:i'=r∧j'=2*k
                ·rw[if_pos e2,if_pos (by omega),e2.1,e2.2,FT_num];exact HKM.out.2.2.1
                ·rw[if_neg e2]
                 by_cases e3:i'<r∨i'=t∨(i'=r∧j'<2*k)
                 ·rw[if_pos e3,if_pos (by omega)]
                 ·rw[if_neg e3,if_neg (by omega)])
              clear HW aB aD
              go_wp2_with (fail)
              go_roundg gs'
              case measure=>omega
              case rel=>
               have h1:=HK'.out;have h2:=C6.out;have h3:=H0.out.2.1;have h4:=HF.out.1.2.2.2
               have hw:=wrap_id (ki+1) (by omega) (by omega)
               exact⟨k+1,ki+1,by rw[hw],⟨by omega,by omega,by omega⟩,bL⟩
             ·have C6:=Aside0.mk (show k=ml from by have:=HK'.out;omega)
              have d5:decide (ki<(ml:Int))=false:=decide_eq_false (by have:=HK'.out;have:=C6.out;omega)
              clear c6
              go_wp2_with (fail)
              go_roundg gu
              case measure=>omega
              case rel=>
               have h1:=HR.out;have h2:=C7.out;have h3:=H0.out.1.n6
               have hw:=wrap_id (ri+1) (by omega) (by omega)
               refine⟨r+1,ri+1,by rw[hw],⟨by omega,by omega,by omega⟩,⟨HL.out.1.congr (fun i' j' _ hj'=>?_)⟩⟩
               have h4:=C6.out;have h5:=HF.out.1.2.2.2
               by_cases e:i'<r∨i'=t∨(i'=r∧j'<2*k)
               ·rw[if_pos e,if_pos (by omega)]
               ·rw[if_neg e,if_neg (by omega)]
         ·have C7:=Aside0.mk (show r=n from by have:=HR.out;omega)
          have d4:decide (ri<(n:Int))=false:=decide_eq_false (by have:=HR.out;have:=C7.out;omega)
          clear c7
          have aU:=Aside0.mk (show RJ w0 g n m (FT Qn) (.slice (some ⟨gl,0,none⟩) m c5) (upd (El n M0 c).ld c (-1)) b' cc' wr from HL.out.congr (fun i' j' hi' _=>by rw[if_pos (by have:=C7.out;omega)]))
          clear HL
          obtain⟨gl',capl',hvl,_,_,cellsl',hcl⟩:=Kd.R_form aU.out.ld (by have:=C1.out;simp;omega)
          rw[List.length_map,List.length_range]at hvl
          injection hvl with e1 e2 e3
          clear e2
          injection e1 with e1
          injection e1 with e1
          subst e1 e3
          have hcell:=(row_cell aU.out.ld ci (by have:=HA.out;omega) (by have:=HA.out;have:=C1.out;omega)).1
          have z0:=blk_frozen hcl ci.toNat
          clear hcl
          go_wp2_with (fail)
          obtain⟨cD,aJ⟩: ∃z,z=wr.setCell ⟨gl,ci.toNat,none⟩ (.int .i64 ti):=⟨_,rfl⟩
          rw[← aJ]
          have bN:=Aside0.mk (show RJ w0 g n m (FT Qn) (.slice (some ⟨gl,0,none⟩) m c5) (El n M0 (c+1)).ld b' cc' cD from by
           have hff: ¬fnd (El n M0 c).M c (n - (El n M0 c).t) (El n M0 c).t=n:=by rw[← HF.out.1.2.1,← HF.out.1.1,← HF.out.2.1];exact Nat.ne_of_lt HP.out.1
           have hl:(El n M0 (c+1)).ld=upd (El n M0 c).ld c (((El n M0 c).t:Nat):Int):=by show(col n c (El n M0 c)).ld=_;unfold col;rw[if_neg hff]
           have h:=aU.out.lead rfl c C1.out ti
           rw[upd_upd,HA.out.2.1,← hl]at h
           rw[aJ,HF.out.2.2.2.2.2.2.1,HA.out.2.1];exact h)
          clear aJ aU hcell z0
          go_roundg gq
          case measure=>omega
          case rel=>
           have h1:=HA.out;have h2:=C1.out;have h3:=H0.out.2.1;have h4:=H0.out.1.n6;have h5:=HP.out;have h6:=HF.out.1
           have hff:fnd (El n M0 c).M c (n - (El n M0 c).t) (El n M0 c).t≠n:=by rw[← HF.out.1.2.1,← HF.out.1.1,← HF.out.2.1];exact Nat.ne_of_lt HP.out.1
           have hpv:=El_piv n M0 c hff
           have hw:=wrap_id (ci+1) (by omega) (by omega)
           have aM:=wrap_id (ti+1) (by omega) (by omega)
           have hR:=bN.out
           rw[HQE.out.2]at hR
           exact⟨c+1,ci+1,ti+1,b',cc',by rw[aM],by rw[hw],⟨by omega,by rw[hpv.2.1];omega,by omega,by omega⟩,⟨hR⟩⟩
  ·have C1:=Aside0.mk (show c=m from by have:=HA.out;omega)
   have d1:decide (ci<(m:Int))=false:=decide_eq_false (by have:=HA.out;have:=C1.out;omega)
   clear c1 bI bQ
   go_wp2_with (fail)
   go_ret
   have h:=HI.out
   rw[C1.out]at h
   exact⟨_,rfl,h.ld,⟨b,cc,h.tb⟩,h.bw⟩
end
end Go.Proofs.Ytebbdadpgapobaa.HEl
