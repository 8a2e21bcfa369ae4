/- Fractions of a table's numbers over its last pivot: an elimination's step, how large its numbers are, one denominator for all. No condition. -/
import Derived.Test.YtebbdadpgapobaaLibRat
import Derived.Test.YtebbdadpgapobaaLibAlt
set_option linter.unusedVariables false
namespace Go.Proofs.Ytebbdadpgapobaa.Elim
open Go.Proofs.Ytebbdadpgapobaa.Lib
theorem castN (a:Int):((-a:Int):Rat)= -(a:Rat):=Rat.intCast_neg a
theorem flip_rat {n d:Int} {r:Rat} (h:r=(n:Rat) / (d:Rat)):r=((-n:Int):Rat) / ((-d:Int):Rat):=by
 rw[h,castN,castN];grind
theorem abs_num {n d:Int} (hd:d≠0) {r:Rat} (h:r=(n:Rat) / (d:Rat)):r.num.natAbs≤n.natAbs:=by
 rcases Int.lt_or_lt_of_ne hd with g|g
 ·have:=num_abs (d:=-d) (by omega) (flip_rat h);omega
 ·have:=num_abs g h;omega
theorem abs_den {n d:Int} (hd:d≠0) {r:Rat} (h:r=(n:Rat) / (d:Rat)):(r.den:Int)≤(d.natAbs:Int):=by
 rcases Int.lt_or_lt_of_ne hd with g|g
 ·have:=den_le (d:=-d) (by omega) (flip_rat h);omega
 ·have:=den_le g h;omega
def Qr (M:Nat→Nat→Int) (d:Int) (i j:Nat):Rat:=(M i j:Rat) / (d:Rat)
theorem Qr_num {M:Nat→Nat→Int} {d:Int} (hd:d≠0) (i j:Nat):(Qr M d i j).num=0↔M i j=0:=by
 have c:=cross hd (r:=Qr M d i j) rfl
 have p:=den_pos (Qr M d i j)
 constructor
 ·intro h;rw[h,Int.zero_mul]at c
  rcases Int.mul_eq_zero.1 c.symm with h1|h1 <;> omega
 ·intro h;rw[h,Int.zero_mul]at c
  rcases Int.mul_eq_zero.1 c with h1|h1
  ·exact h1
  ·exact absurd h1 hd
theorem piv_inv {x d:Int} (hx:x≠0) (hd:d≠0) {r:Rat} (h:r=(x:Rat) / (d:Rat)):(((r.den:Int):Rat) / (r.num:Rat))=(d:Rat) / (x:Rat):=by
 have c:=cross hd h
 have hr:r.num≠0:=by
  intro e;rw[e,Int.zero_mul]at c
  have:=den_pos r
  rcases Int.mul_eq_zero.1 c.symm with h1|h1 <;> omega
 rw[← Rat.divInt_eq_div,← Rat.divInt_eq_div]
 exact(Rat.divInt_eq_divInt_iff hr hx).2 (by rw[Int.mul_comm,← c,Int.mul_comm])
theorem step_row {y x d:Int} (hx:x≠0) (hd:d≠0):((y:Rat) / (d:Rat))*((d:Rat) / (x:Rat))=(y:Rat) / (x:Rat):=by
 have h1:=ne0 hx
 have h2:=ne0 hd
 grind
theorem step_mul {q z x d:Int} (hx:x≠0) (hd:d≠0):(-((q:Rat) / (d:Rat)))*((z:Rat) / (x:Rat))=((-(q*z):Int):Rat) / ((d*x:Int):Rat):=by
 have h1:=ne0 hx
 have h2:=ne0 hd
 rw[castN,castI,castI]
 grind
theorem step_add {y q z x d n:Int} (hx:x≠0) (hd:d≠0) (h:y*x - q*z=d*n):(y:Rat) / (d:Rat)+(-((q:Rat) / (d:Rat)))*((z:Rat) / (x:Rat))=(n:Rat) / (x:Rat):=by
 have h1:=ne0 hx
 have h2:=ne0 hd
 have e:(y:Rat)*(x:Rat) - (q:Rat)*(z:Rat)=(d:Rat)*(n:Rat):=by rw[← castI,← castI,← castI,← Rat.intCast_sub,h]
 grind
theorem wide {y x d:Int} (hx:x≠0) (hd:d≠0):(y:Rat) / (d:Rat)=((y*x:Int):Rat) / ((d*x:Int):Rat):=by
 have h1:=ne0 hx
 have h2:=ne0 hd
 rw[castI,castI]
 grind
theorem lcm_step {L d:Int} (hL:0<L) (hd:0<d):L / (Int.gcd L d:Int)*d=(Int.lcm L d:Int):=by
 have gp:=gcd_pos (n:=L) (d:=d) (by omega)
 obtain⟨u,hu⟩:=Int.gcd_dvd_left L d
 have h3:=Int.gcd_mul_lcm L d
 have h4:(Int.gcd L d:Int)*(Int.lcm L d:Int)=L*d:=by
  have:=Int.mul_pos hL hd
  rw[← Int.natCast_mul,h3]
  have e:((L*d).natAbs:Int)=L*d:=Int.natAbs_of_nonneg (Int.le_of_lt this)
  first|exact e|(rw[Int.natAbs_mul]at e;exact e)
 refine Int.eq_of_mul_eq_mul_left (a:=(Int.gcd L d:Int)) (by omega) ?_
 rw[h4,← Int.mul_assoc]
 congr 1
 exact Int.mul_ediv_cancel' (Int.gcd_dvd_left L d)
def lcmD (d:Nat→Int):Nat→Int
 |0=>1
 |c+1=>lcmD d c / (Int.gcd (lcmD d c) (d c):Int)*d c
theorem lcmD_pos {d:Nat→Int} (h: ∀c,0<d c): ∀c,0<lcmD d c
 |0=>by simp[lcmD]
 |c+1=>by
  rw[lcmD,lcm_step (lcmD_pos h c) (h c)]
  have:=Int.lcm_pos (m:=lcmD d c) (n:=d c) (by have:=lcmD_pos h c;omega) (by have:=h c;omega)
  omega
theorem lcmD_dvd {d:Nat→Int} (h: ∀c,0<d c): ∀c j,j<c→d j∣lcmD d c
 |0,_,hj=>absurd hj (Nat.not_lt_zero _)
 |c+1,j,hj=>by
  rw[lcmD,lcm_step (lcmD_pos h c) (h c)]
  by_cases e:j=c
  ·subst e;exact Int.dvd_lcm_right _ _
  ·exact Int.dvd_trans (lcmD_dvd h c j (by omega)) (Int.dvd_lcm_left _ _)
theorem lcmD_min {d:Nat→Int} (h: ∀c,0<d c) {D:Int}: ∀c,(∀j,j<c→d j∣D)→lcmD d c∣D
 |0,_=>by simp[lcmD]
 |c+1,hj=>by
  rw[lcmD,lcm_step (lcmD_pos h c) (h c)]
  have h1:Int.lcm (lcmD d c) (d c)∣D.natAbs:=Nat.lcm_dvd (Int.natAbs_dvd_natAbs.2 (lcmD_min h c (fun j g=>hj j (by omega)))) (Int.natAbs_dvd_natAbs.2 (hj c (by omega)))
  exact Int.natAbs_dvd_natAbs.1 (by rw[Int.natAbs_natCast];exact h1)
def gcdL (g:Nat):List Int→Nat
 |[]=>g
 |n :: l=>gcdL (Nat.gcd g n.natAbs) l
theorem gcdL_dvd0: ∀(l:List Int) (g:Nat),gcdL g l∣g
 |[],g=>Nat.dvd_refl _
 |n :: l,g=>Nat.dvd_trans (gcdL_dvd0 l _) (Nat.gcd_dvd_left _ _)
theorem gcdL_dvd: ∀(l:List Int) (g:Nat) (n:Int),n∈l→gcdL g l∣n.natAbs
 |[],_,_,h=>by cases h
 |m :: l,g,n,h=>by
  rcases List.mem_cons.1 h with e|e
  ·rw[e];exact Nat.dvd_trans (gcdL_dvd0 l _) (Nat.gcd_dvd_right _ _)
  ·exact gcdL_dvd l _ n e
theorem gcdL_mul {x L:Nat}: ∀(l:List Int) (g:Nat),x∣L*g→(∀n,n∈l→x∣L*n.natAbs)→x∣L*gcdL g l
 |[],_,h,_=>h
 |n :: l,g,h,hn=>gcdL_mul l _ (by rw[← Nat.gcd_mul_left];exact Nat.dvd_gcd h (hn n List.mem_cons_self)) (fun q hq=>hn q (List.mem_cons_of_mem _ hq))
theorem gcdL_pos {g:Nat} (l:List Int) (h:0<g):0<gcdL g l:=Nat.pos_of_dvd_of_pos (gcdL_dvd0 l g) h
theorem lowest {D:Int} (hD:D≠0) {N:Nat→Int} {m:Nat} {ns:List Int} (h1: ∀c,c<m→N c∈ns) (h2: ∀n,n∈ns→n=0∨ ∃c,c<m∧n=N c) {Q:Nat→Rat} (hQ: ∀c,Q c=(N c:Rat) / (D:Rat))
 {gs:Int} (hg:gs=if D<0 then -(gcdL D.natAbs ns:Int)else(gcdL D.natAbs ns:Int)):
 lcmD (fun c=>((Q c).den:Int)) m=D / gs∧(∀c,c<m→(Q c).num*(lcmD (fun c=>((Q c).den:Int)) m / ((Q c).den:Int))=N c / gs)∧gs∣D∧(∀n,n∈ns→gs∣n)∧gs≠0∧lcmD (fun c=>((Q c).den:Int)) m∣D:=by
 have hp: ∀c,0<((Q c).den:Int):=fun c=>den_pos _
 have Lp:=lcmD_pos hp m
 have hLD:lcmD (fun c=>((Q c).den:Int)) m∣D:=lcmD_min hp m (fun j _=>den_dvd hD (hQ j))
 have Gp:=gcdL_pos ns (g:=D.natAbs) (by omega)
 have gD:=gcdL_dvd0 ns D.natAbs
 have gN:=gcdL_dvd ns D.natAbs
 have cr: ∀c,(Q c).num*D=N c*((Q c).den:Int):=fun c=>cross hD (hQ c)
 have hLd: ∀c,c<m→ ∃e,lcmD (fun c=>((Q c).den:Int)) m=((Q c).den:Int)*e:=fun c hc=>lcmD_dvd hp m c hc
 have hDL:D.natAbs∣(lcmD (fun c=>((Q c).den:Int)) m).natAbs*gcdL D.natAbs ns:=by
  refine gcdL_mul ns _ (Nat.dvd_mul_left _ _) (fun n hn=>?_)
  rcases h2 n hn with e|⟨c,hc,e⟩
  ·rw[e];simp
  ·obtain⟨q,hq⟩:=hLd c hc
   have:D∣lcmD (fun c=>((Q c).den:Int)) m*N c:=⟨(Q c).num*q,by rw[hq];have:=cr c;grind⟩
   have:=Int.natAbs_dvd_natAbs.2 this
   rw[Int.natAbs_mul]at this
   rw[e];exact this
 have hmin: ∀E:Int,(∀c,c<m→((Q c).den:Int)∣E)→lcmD (fun c=>((Q c).den:Int)) m∣E:=fun E h=>lcmD_min hp m h
 generalize lcmD (fun c=>((Q c).den:Int)) m=L at*
 generalize hG:gcdL D.natAbs ns=G at*
 have hgs:gs.natAbs=G:=by rw[hg];split <;> omega
 have hs:gs≠0:=by omega
 have d1:gs∣D:=Int.natAbs_dvd_natAbs.1 (by rw[hgs];exact gD)
 have d2: ∀n,n∈ns→gs∣n:=fun n hn=>Int.natAbs_dvd_natAbs.1 (by rw[hgs];exact gN n hn)
 obtain⟨E,hE⟩:=d1
 have Ep:0<E:=by
  rcases Int.lt_or_le 0 E with h|h
  ·exact h
  ·exfalso
   by_cases hn:D<0
   ·rw[if_pos hn]at hg
    have:0≤gs*E:=Int.mul_nonneg_of_nonpos_of_nonpos (by omega) h
    omega
   ·rw[if_neg hn]at hg
    have:gs*E≤0:=Int.mul_nonpos_of_nonneg_of_nonpos (by omega) h
    omega
 have eLE:L=E:=by
  have a1:L∣E:=by
   refine hmin E (fun c hc=>?_)
   obtain⟨u,hu⟩:=d2 _ (h1 c hc)
   refine den_dvd (n:=u) (by omega) ?_
   rw[hQ c,hu,hE]
   have z1:=ne0 hs
   have z2:=ne0 (d:=E) (by omega)
   rw[castI,castI]
   grind
  have a2:E∣L:=by
   have:D∣L*gs:=Int.natAbs_dvd_natAbs.1 (by rw[Int.natAbs_mul,hgs];exact hDL)
   obtain⟨q,hq⟩:=this
   refine⟨q,Int.eq_of_mul_eq_mul_left hs ?_⟩
   rw[hE]at hq;grind
  have b1:=Int.le_of_dvd Ep a1
  have b2:=Int.le_of_dvd Lp a2
  omega
 refine⟨by rw[eLE,hE,Int.mul_ediv_cancel_left _ hs],fun c hc=>?_,⟨E,hE⟩,d2,hs,hLD⟩
 obtain⟨q,hq⟩:=hLd c hc
 obtain⟨u,hu⟩:=d2 _ (h1 c hc)
 have dp:=hp c
 rw[hq,Int.mul_ediv_cancel_left _ (by omega),hu,Int.mul_ediv_cancel_left _ hs]
 have c1:=cr c
 refine Int.eq_of_mul_eq_mul_left (a:=D) hD ?_
 have e2:((Q c).den:Int)*q=E:=by rw[← hq,eLE]
 have:D*((Q c).num*q)=N c*(((Q c).den:Int)*q):=by grind
 rw[this,e2,hu,hE];grind
end Go.Proofs.Ytebbdadpgapobaa.Elim
