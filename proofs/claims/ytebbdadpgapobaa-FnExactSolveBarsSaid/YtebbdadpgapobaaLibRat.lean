/- Fractions in lowest terms as rational numbers: their numerators and denominators, and how large these are. No condition. -/
import Derived.Test.YtebbdadpgapobaaLib
namespace Go.Proofs.Ytebbdadpgapobaa.Lib
open Go.RowKit Go.Proofs.YtebbdadpgapobaaW.PrintWords
def fr (r:Rat):Int×Int:=(r.num,(r.den:Int))
theorem den_pos (r:Rat):(0:Int)<(r.den:Int):=by have:=r.den_nz;omega
theorem rat_self (r:Rat):(r.num:Rat) / ((r.den:Int):Rat)=r:=by
 rw[← Rat.divInt_eq_div];exact Rat.num_divInt_den r
theorem cross {n d:Int} (hd:d≠0) {r:Rat} (h:r=(n:Rat) / (d:Rat)):r.num*d=n*(r.den:Int):=by
 have e:Rat.divInt r.num (r.den:Int)=Rat.divInt n d:=by rw[Rat.num_divInt_den,Rat.divInt_eq_div];exact h
 exact(Rat.divInt_eq_divInt_iff (by have:=den_pos r;omega) hd).1 e
theorem of_cross {n d:Int} (hd:d≠0) {r:Rat} (h:r.num*d=n*(r.den:Int)):r=(n:Rat) / (d:Rat):=by
 rw[← Rat.divInt_eq_div,← Rat.num_divInt_den r]
 exact(Rat.divInt_eq_divInt_iff (by have:=den_pos r;omega) hd).2 h
theorem fr_of_coprime {n d:Int} (hd:0<d) (h:Int.gcd n d=1):fr ((n:Rat) / (d:Rat))=(n,d):=by
 obtain⟨m,rfl⟩:=Int.eq_ofNat_of_zero_le (Int.le_of_lt hd)
 have c:n.natAbs.Coprime m:=by simpa [Int.gcd] using h
 have e:=@Rat.mk_eq_divInt n m (by omega) c
 rw[← Rat.divInt_eq_div,← e]
 rfl
theorem gcd_pos {n d:Int} (hd:d≠0):(0:Int)<(Int.gcd n d:Int):=by
 have:0<Int.gcd n d:=Int.gcd_pos_of_ne_zero_right n hd
 omega
theorem tdiv_dvd {a g:Int} (h:g∣a):Int.tdiv a g=a / g:=Int.tdiv_eq_ediv_of_dvd h
theorem fr_make {n d:Int} (hd:0<d):(Int.tdiv n (Int.gcd n d:Int),Int.tdiv d (Int.gcd n d:Int))=fr ((n:Rat) / (d:Rat)):=by
 rw[tdiv_dvd (Int.gcd_dvd_left n d),tdiv_dvd (Int.gcd_dvd_right n d),← Rat.divInt_eq_div]
 unfold fr
 rw[Rat.num_divInt,Rat.den_divInt,if_neg (by omega),Int.sign_eq_one_of_pos hd,Int.one_mul,Int.gcd_comm d n]
 congr 1
 rw[Int.natCast_ediv,Int.natAbs_of_nonneg (Int.le_of_lt hd)]
theorem fr_make_neg {n d:Int} (hd:d<0):fr (((-n:Int):Rat) / ((-d:Int):Rat))=fr ((n:Rat) / (d:Rat)):=by
 congr 1
 rw[← Rat.divInt_eq_div,← Rat.divInt_eq_div]
 exact(Rat.divInt_eq_divInt_iff (by omega) (by omega)).2 (by rw[Int.neg_mul,Int.mul_neg])
theorem den_dvd {n d:Int} (hd:d≠0) {r:Rat} (h:r=(n:Rat) / (d:Rat)):(r.den:Int)∣d:=by
 have c:=cross hd h
 have hc:(r.den:Int)∣r.num*d:=⟨n,by rw[c,Int.mul_comm]⟩
 have h1:r.den∣r.num.natAbs*d.natAbs:=by
  have:=Int.natAbs_dvd_natAbs.2 hc
  rwa [Int.natAbs_mul,Int.natAbs_natCast]at this
 have h2:r.den∣d.natAbs:=(Nat.Coprime.symm r.reduced).dvd_of_dvd_mul_left h1
 exact Int.natAbs_dvd_natAbs.1 (by rw[Int.natAbs_natCast];exact h2)
theorem den_le {n d:Int} (hd:0<d) {r:Rat} (h:r=(n:Rat) / (d:Rat)):(r.den:Int)≤d:=
 Int.le_of_dvd hd (den_dvd (by omega) h)
theorem num_scale {n d:Int} (hd:0<d) {r:Rat} (h:r=(n:Rat) / (d:Rat)): ∃m:Int,1≤m∧n=r.num*m∧d=(r.den:Int)*m:=by
 obtain⟨m,hm⟩:=den_dvd (by omega) h
 have hp:=den_pos r
 have hm1:1≤m:=by
  rcases Int.lt_or_le m 1 with h'|h'
  ·have:(r.den:Int)*m≤0:=Int.mul_nonpos_of_nonneg_of_nonpos (by omega) (by omega)
   omega
  ·exact h'
 refine⟨m,hm1,?_,hm⟩
 have c:=cross (by omega) h
 rw[hm]at c
 have:(r.den:Int)*(r.num*m)=(r.den:Int)*n:=by grind
 exact(Int.eq_of_mul_eq_mul_left (by omega) this).symm
theorem num_abs {n d:Int} (hd:0<d) {r:Rat} (h:r=(n:Rat) / (d:Rat)):(r.num.natAbs:Int)≤(n.natAbs:Int):=by
 obtain⟨m,hm,e,_⟩:=num_scale hd h
 rw[e,Int.natAbs_mul]
 have:r.num.natAbs*1≤r.num.natAbs*m.natAbs:=Nat.mul_le_mul_left _ (by omega)
 omega
theorem num_le {n d B:Int} (hd:0<d) {r:Rat} (h:r=(n:Rat) / (d:Rat)) (h1: -B≤n) (h2:n≤B): -B≤r.num∧r.num≤B:=by
 have:=num_abs hd h
 omega
theorem castI (a b:Int):((a*b:Int):Rat)=(a:Rat)*(b:Rat):=Rat.intCast_mul a b
theorem ne0 {d:Int} (h:d≠0):(d:Rat)≠0:=by
 intro e;exact h (by exact_mod_cast e)
theorem mul_key (a b:Rat):fr (a*b)=(((a.num:Rat) / ((b.den:Int):Rat)).num*((b.num:Rat) / ((a.den:Int):Rat)).num,
 (((a.num:Rat) / ((b.den:Int):Rat)).den:Int)*(((b.num:Rat) / ((a.den:Int):Rat)).den:Int)):=by
 have pa:=den_pos a
 have pb:=den_pos b
 generalize hx:(a.num:Rat) / ((b.den:Int):Rat)=x
 generalize hy:(b.num:Rat) / ((a.den:Int):Rat)=y
 obtain⟨m,hm,n1,d1⟩:=num_scale pb hx.symm
 obtain⟨q,hq,n2,d2⟩:=num_scale pa hy.symm
 have px:=den_pos x
 have py:=den_pos y
 have e:a*b=((x.num*y.num:Int):Rat) / (((x.den:Int)*(y.den:Int):Int):Rat):=by
  have ea:=rat_self a
  have eb:=rat_self b
  have ex:=rat_self x
  have ey:=rat_self y
  have za:=ne0 (d:=(a.den:Int)) (by omega)
  have zb:=ne0 (d:=(b.den:Int)) (by omega)
  have zx:=ne0 (d:=(x.den:Int)) (by omega)
  have zy:=ne0 (d:=(y.den:Int)) (by omega)
  rw[castI,castI]
  grind
 rw[e]
 refine fr_of_coprime (Int.mul_pos px py) ?_
 have ca:Int.gcd a.num (a.den:Int)=1:=by simpa [Int.gcd] using a.reduced
 have cb:Int.gcd b.num (b.den:Int)=1:=by simpa [Int.gcd] using b.reduced
 have cx:Int.gcd x.num (x.den:Int)=1:=by simpa [Int.gcd] using x.reduced
 have cy:Int.gcd y.num (y.den:Int)=1:=by simpa [Int.gcd] using y.reduced
 have cxy:Int.gcd x.num (y.den:Int)=1:=by
  apply Nat.eq_one_of_dvd_one
  rw[← ca]
  apply Int.dvd_gcd
  ·exact Int.dvd_trans (Int.gcd_dvd_left _ _) ⟨m,n1⟩
  ·exact Int.dvd_trans (Int.gcd_dvd_right _ _) ⟨q,d2⟩
 have cyx:Int.gcd y.num (x.den:Int)=1:=by
  apply Nat.eq_one_of_dvd_one
  rw[← cb]
  apply Int.dvd_gcd
  ·exact Int.dvd_trans (Int.gcd_dvd_left _ _) ⟨q,n2⟩
  ·exact Int.dvd_trans (Int.gcd_dvd_right _ _) ⟨m,d1⟩
 have g1:Int.gcd x.num ((x.den:Int)*(y.den:Int))=1:=by
  have:Nat.Coprime x.num.natAbs (x.den*y.den):=Nat.Coprime.mul_right (by simpa [Int.gcd] using cx) (by simpa [Int.gcd] using cxy)
  simpa [Int.gcd,Int.natAbs_mul] using this
 have g2:Int.gcd y.num ((x.den:Int)*(y.den:Int))=1:=by
  have:Nat.Coprime y.num.natAbs (x.den*y.den):=Nat.Coprime.mul_right (by simpa [Int.gcd] using cyx) (by simpa [Int.gcd] using cy)
  simpa [Int.gcd,Int.natAbs_mul] using this
 have:Nat.Coprime (x.num.natAbs*y.num.natAbs) (x.den*y.den):=Nat.Coprime.mul_left (by simpa [Int.gcd,Int.natAbs_mul] using g1) (by simpa [Int.gcd,Int.natAbs_mul] using g2)
 simpa [Int.gcd,Int.natAbs_mul] using this
end Go.Proofs.Ytebbdadpgapobaa.Lib
