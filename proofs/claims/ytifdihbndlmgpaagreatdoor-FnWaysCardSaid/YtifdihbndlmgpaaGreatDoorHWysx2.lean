-- Written by a program for this claim (the functions that the statement reaches, and that the program's code comes to them).
import Derived.Test.YtifdihbndlmgpaaGreatDoorHWysx0
namespace Go.Proofs.YtifdihbndlmgpaaGreatDoor.HWys
open Go.RowKit Go.Proofs.YtifdihbndlmgpaaGreatDoorW.PrintWords Go.Proofs.YtifdihbndlmgpaaGreatDoorW.PrintLast Go.Proofs.YtifdihbndlmgpaaGreatDoorW.PrintMore
attribute [local go_sem] max2_int min2_int max_two min_two max_three min_three max_four min_four
set_option linter.unusedVariables false
set_option linter.unusedSimpArgs false
/-! ### laws_f6big: function 4 -/
def laws_f6big.f (l0:List Int):Option (Bool):=some (decide ((l0.length:Int) > 4096))
set_option maxHeartbeats 8000000 in
set_option maxRecDepth 100000 in
theorem laws_f6big.calls (A0:Option Addr) (c0:Nat) (l0:List Int) (r:Bool) (w:World) (aA:Kd.C (Kd.int .u8) w A0 l0.length l0) (aB:l0.length≤c0) (h:laws_f6big.f l0=some r):
  Calls Tryz.prog 4 #[.slice A0 l0.length c0] w fun e w'=>e= .returned (.bool r)∧Drawn0 w w':=by
 have aD:=A' aA;have aC:=A' aB;clear aA aB;have H:(some (decide ((l0.length:Int) > 4096)))=some r:=h;clear h;obtain rfl:=Option.some.inj H;go_enter Tryz.func4,Tryz.ntmps4;go_wp2;go_ret;exact⟨by first|rfl|(simp;done)|(simp[*];done),by repeat(first|exact Drawn0.refl _|apply Drawn0.step)⟩
def IsS100 (w0 W:World) (g:Nat) (f0:List Int) (f1:Int) (f2:Int):Prop:=∃A0 c0,W.heap[g]? =some (.cells #[.slice A0 f0.length c0,.int .i64 f1,.int .u64 f2] 100 (0,0))∧w0.heap.size≤g∧Kd.C (Kd.int .u8) w0 A0 f0.length f0
theorem IsS100.grown {w0 W:World} {g:Nat} {f0:List Int} {f1:Int} {f2:Int} {W1:World} {row:Option Nat} (h:IsS100 w0 W g f0 f1 f2) (hw:W.grownBy W1 row) (hne:some g≠row):IsS100 w0 W1 g f0 f1 f2:=by
 obtain⟨A0,c0,hb,hg,aA⟩:=h
 exact⟨A0,c0,blk_grown hb hw hne,hg,aA⟩
theorem IsS100.own_neN {w0 W:World} {g:Nat} {f0:List Int} {f1:Int} {f2:Int} {α:Type} {d:Kd α} {e:Nat} {base:Nat} {ok:Nat→Prop} {v:Value} {xs:List α} (h:IsS100 w0 W g f0 f1 f2) (ho:Kd.N d e W base ok v xs) (ht:e≠100):some g≠v.ownBlock:=by
 obtain⟨A0,c0,hb,hg,aA⟩:=h
 exact Kd.N_ne ho hb ht
theorem IsS100.fresh {w0 W:World} {g:Nat} {f0:List Int} {f1:Int} {f2:Int} (h:IsS100 w0 W g f0 f1 f2): ∀k,W.heap.size≤k→k≠g:=by
 obtain⟨A0,c0,hb,hg,aA⟩:=h
 exact Kd.freshB hb
theorem IsS100.kept {w0 W:World} {g:Nat} {f0:List Int} {f1:Int} {f2:Int} {W1:World} {S:Nat→Prop} (h:IsS100 w0 W g f0 f1 f2) (hk:Kept W W1 S) (hne: ¬S g):IsS100 w0 W1 g f0 f1 f2:=by
 obtain⟨A0,c0,hb,hg,aA⟩:=h
 exact⟨A0,c0,blk_kept hb hk hne,hg,aA⟩
theorem IsS100.below {w0 W:World} {g:Nat} {f0:List Int} {f1:Int} {f2:Int} {W1:World} (h:IsS100 w0 W g f0 f1 f2) (hw:Below W.heap.size W W1):IsS100 w0 W1 g f0 f1 f2:=h.grown (grown_of_below hw none) (by simp)
theorem IsS100.alloc {w0 W:World} {g:Nat} {f0:List Int} {f1:Int} {f2:Int} (h:IsS100 w0 W g f0 f1 f2) (o:Obj):IsS100 w0 (W.alloc o) g f0 f1 f2:=h.below (below_alloc (Below.refl _ _) o)
theorem IsS100.drewN {w0 W:World} {g:Nat} {f0:List Int} {f1:Int} {f2:Int} (h:IsS100 w0 W g f0 f1 f2) (m:Nat):IsS100 w0 (W.drewN m) g f0 f1 f2:=h
theorem IsS100.drew {w0 W:World} {g:Nat} {f0:List Int} {f1:Int} {f2:Int} (h:IsS100 w0 W g f0 f1 f2):IsS100 w0 W.drew g f0 f1 f2:=h
theorem IsS100.at_ {w0 W:World} {g:Nat} {f0:List Int} {f1:Int} {f2:Int} {w':World} {m:Nat} (hq:W.drewN m=w') (h:IsS100 w0 W g f0 f1 f2):IsS100 w0 w' g f0 f1 f2:=by subst hq;exact IsS100.drewN h m
theorem IsS100.apart {w0 W:World} {g:Nat} {f0:List Int} {f1:Int} {f2:Int} {α:Type} {d:Kd α} {e:Nat} {base:Nat} {ok:Nat→Prop} {v:Value} {xs:List α} (h:IsS100 w0 W g f0 f1 f2) (ho:d.R e W base ok v xs) (ht: ∀q,q∈e :: d.E→q≠100):d.R e W base (fun k=>ok k∧k≠g) v xs:=by
 obtain⟨A0,c0,hb,hg,aA⟩:=h
 exact Kd.R_types ho hb ht
theorem IsS100.own_ne {w0 W:World} {g:Nat} {f0:List Int} {f1:Int} {f2:Int} {α:Type} {d:Kd α} {e:Nat} {base:Nat} {ok:Nat→Prop} {v:Value} {xs:List α} (h:IsS100 w0 W g f0 f1 f2) (ho:d.R e W base ok v xs) (ht:e≠100):some g≠v.ownBlock:=by
 obtain⟨A0,c0,hb,hg,aA⟩:=h
 exact Kd.R_ne ho hb ht
theorem IsS100.apartQ {w0 W:World} {g:Nat} {f0:List Int} {f1:Int} {f2:Int} {α:Type} {d:Kd α} {e:Nat} {base:Nat} {ok:Nat→Prop} {v:Value} {xs:List α} (h:IsS100 w0 W g f0 f1 f2) (ho:d.Q e W base ok v xs) (ht: ∀q,q∈e :: d.E→q≠100):d.Q e W base (fun k=>ok k∧k≠g) v xs:=by
 obtain⟨A0,c0,hb,hg,aA⟩:=h
 exact Kd.Q_types ho hb ht
theorem IsS100.own_neQ {w0 W:World} {g:Nat} {f0:List Int} {f1:Int} {f2:Int} {α:Type} {d:Kd α} {e:Nat} {base:Nat} {ok:Nat→Prop} {v:Value} {xs:List α} (h:IsS100 w0 W g f0 f1 f2) (ho:d.Q e W base ok v xs) (ht:e≠100):some g≠v.ownBlock:=by
 obtain⟨A0,c0,hb,hg,aA⟩:=h
 exact Kd.Q_ne ho hb ht
theorem IsS100.apartS {w0 W:World} {g:Nat} {f0:List Int} {f1:Int} {f2:Int} {α:Type} {d:Kd α} {e:Nat} {base:Nat} {ok:Nat→Prop} {v:Value} {xs:List α} (h:IsS100 w0 W g f0 f1 f2) (ho:d.S e W base ok v xs) (ht: ∀q,q∈e :: d.E→q≠100):d.S e W base (fun k=>ok k∧k≠g) v xs:=by
 obtain⟨A0,c0,hb,hg,aA⟩:=h
 exact Kd.S_types ho hb ht
theorem IsS100.own_neS {w0 W:World} {g:Nat} {f0:List Int} {f1:Int} {f2:Int} {α:Type} {d:Kd α} {e:Nat} {base:Nat} {ok:Nat→Prop} {v:Value} {xs:List α} (h:IsS100 w0 W g f0 f1 f2) (ho:d.S e W base ok v xs) (ht:e≠100):some g≠v.ownBlock:=by
 obtain⟨A0,c0,hb,hg,aA⟩:=h
 exact Kd.S_ne ho hb ht
theorem IsS100.lt {w0 W:World} {g:Nat} {f0:List Int} {f1:Int} {f2:Int} (h:IsS100 w0 W g f0 f1 f2):g<W.heap.size:=by
 obtain⟨A0,c0,hb,hg,aA⟩:=h
 exact blk_lt hb
theorem IsS100.ge {w0 W:World} {g:Nat} {f0:List Int} {f1:Int} {f2:Int} (h:IsS100 w0 W g f0 f1 f2):w0.heap.size≤g:=by
 obtain⟨A0,c0,hb,hg,aA⟩:=h
 exact hg
theorem IsS100.ne_blk {w0 W:World} {g:Nat} {f0:List Int} {f1:Int} {f2:Int} {a:Nat} {cs:Array Value} {t:TypeId} {fr:Nat×Nat} (h:IsS100 w0 W g f0 f1 f2) (aA:W.heap[a]? =some (.cells cs t fr)) (ht:t≠100):g≠a:=by
 obtain⟨A0,c0,hb,hg,aC⟩:=h
 rintro rfl
 rw[hb]at aA
 injection aA with aA
 injection aA with _ aB
 exact ht aB.symm
theorem IsS100.far {w0 W:World} {g:Nat} {f0:List Int} {f1:Int} {f2:Int} {p:Addr} (h:IsS100 w0 W g f0 f1 f2) (hne:g≠p.block) (u:Value):IsS100 w0 (W.setCell p u) g f0 f1 f2:=by
 obtain⟨A0,c0,hb,hg,aA⟩:=h
 exact⟨A0,c0,blk_far hb hne u,hg,aA⟩
theorem cellS100_0 {W:World} {g:Nat} {A0:Option Addr} {c0:Nat} {f0:List Int} {f1:Int} {f2:Int} (h:W.heap[g]? =some (.cells #[.slice A0 f0.length c0,.int .i64 f1,.int .u64 f2] 100 (0,0))):W.cell? ⟨g,0,none⟩=some (.slice A0 f0.length c0):=(blk_cell h 0).trans rfl
theorem cellS100_1 {W:World} {g:Nat} {A0:Option Addr} {c0:Nat} {f0:List Int} {f1:Int} {f2:Int} (h:W.heap[g]? =some (.cells #[.slice A0 f0.length c0,.int .i64 f1,.int .u64 f2] 100 (0,0))):W.cell? ⟨g,1,none⟩=some (.int .i64 f1):=(blk_cell h 1).trans rfl
theorem IsS100.set_1 {w0 W:World} {g:Nat} {f0:List Int} {f1:Int} {f2:Int} (h:IsS100 w0 W g f0 f1 f2) (x:Int):IsS100 w0 (W.setCell ⟨g,1,none⟩ (.int .i64 x)) g f0 x f2:=by
 obtain⟨A0,c0,hb,hg,aA⟩:=h
 exact⟨A0,c0,by simpa using blk_set hb 1 (.int .i64 x),hg,aA⟩
theorem cellS100_2 {W:World} {g:Nat} {A0:Option Addr} {c0:Nat} {f0:List Int} {f1:Int} {f2:Int} (h:W.heap[g]? =some (.cells #[.slice A0 f0.length c0,.int .i64 f1,.int .u64 f2] 100 (0,0))):W.cell? ⟨g,2,none⟩=some (.int .u64 f2):=(blk_cell h 2).trans rfl
theorem IsS100.set_2 {w0 W:World} {g:Nat} {f0:List Int} {f1:Int} {f2:Int} (h:IsS100 w0 W g f0 f1 f2) (x:Int):IsS100 w0 (W.setCell ⟨g,2,none⟩ (.int .u64 x)) g f0 f1 x:=by
 obtain⟨A0,c0,hb,hg,aA⟩:=h
 exact⟨A0,c0,by simpa using blk_set hb 2 (.int .u64 x),hg,aA⟩
theorem IsS100.new (w0 W:World) (A0:Option Addr) (c0:Nat) (f0:List Int) (f1:Int) (f2:Int) (hB:Below w0.heap.size w0 W) (aA:Kd.C (Kd.int .u8) w0 A0 f0.length f0):IsS100 w0 (W.alloc (.cells #[.slice A0 f0.length c0,.int .i64 f1,.int .u64 f2] 100)) W.heap.size f0 f1 f2:=⟨A0,c0,by simpa using heap_alloc_new W _,hB.size,aA⟩
/-! ### spec_l00From: function 44 -/
def spec_l00From.f (l0:List Int):Option (List Int×Int×Int):=some (l0,0,0)
theorem qZ2_0 {p q:Prop} (h:q) (f:q→p:=by intro h_;repeat(first|(with_reducible first|exact h_|apply K'|apply F'|apply J')|exact h_)):p:=f h
theorem qZ2_1 {p q r0:Prop} (h:q) (g0:r0) (f:q→r0→p:=by intro h_ g0_;repeat(first|(with_reducible first|exact h_|apply K'|apply F'|apply J'|refine E' ?_ g0_)|exact h_)):p:=f h g0
set_option maxHeartbeats 8000000 in
set_option maxRecDepth 100000 in
theorem spec_l00From.calls (A0:Option Addr) (c0:Nat) (l0:List Int) (r1:List Int) (r2:Int) (r3:Int) (w0 w:World) (hB:Below w0.heap.size w0 w) (aF:Kd.C (Kd.int .u8) w0 A0 l0.length l0) (aG:l0.length≤c0) (h:spec_l00From.f l0=some (r1,r2,r3)):
  Calls Tryz.prog 44 #[.slice A0 l0.length c0] w fun e w'=>∃g_:Nat,e= .returned (.pointer (some ⟨g_,0,none⟩))∧IsS100 w0 w' g_ r1 r2 r3∧Below w0.heap.size w0 w'∧Below w.heap.size w w':=by
 have aE:=Tryz.underlying100;have aI:=A' aF;have aJ:=A' aG;clear aF aG;have HBW:=A' (Below.refl w.heap.size w);have aH:=A' hB.size;have HB:=A' hB;clear hB;have H:(some (l0,0,0))=some (r1,r2,r3):=h;clear h;simp only[Option.some.injEq,Prod.mk.injEq]at H;obtain⟨rfl,rfl,rfl⟩:=H;go_enter Tryz.func44,Tryz.ntmps44;go_wp2_with (first|((with_reducible refine gate_dst (N:=5) rfl ?_);refine box_event ?hg (N:=5) ?hd (cs:=#[.slice A0 l0.length c0,.int .i64 0,.int .u64 0]) (t:=100) ?hr ?_;(case hd=>rfl);(case hg=>rfl);(case hr=>first|(go_simp;done)|(go_simp;rfl));intro aA hg w2 hbox hb;have n0_:=A' (W' HBW.out hb);have n1_:=A' (W' (qK0 HB.out) hb);have n2_:=A' (hbox);have n3_:=A' ((by rw[hg];exact(V' (qZ2_0 HBW.out)):w.heap.size≤aA));have n4_:=A' ((Nat.le_trans aH.out (by rw[hg];exact(V' (qZ2_0 HBW.out)):w.heap.size≤aA):w0.heap.size≤aA));clear HBW;clear HB;have HBW:=n0_;have HB:=n1_;have aD:=n2_;have aC:=n3_;have aB:=n4_;clear n0_ n1_ n2_ n3_ n4_;clear hb hbox hg));go_ret;exact⟨_,rfl,(show IsS100 w0 _ aA l0 0 0 from⟨_,_,qB aD.out,aB.out,aI.out⟩),qK1 HB.out aB.out,qZ2_1 HBW.out aC.out⟩
/-! ### spec_l00In: function 58 -/
def spec_l00In.f (a0:Int) (a1:Int) (a2:Int):Option (Bool):=if a0≥a1 then(some (decide (a0≤a2)))else(some false)
set_option maxHeartbeats 8000000 in
set_option maxRecDepth 100000 in
theorem spec_l00In.calls (a0:Int) (a1:Int) (a2:Int) (r:Bool) (w:World) (h:spec_l00In.f a0 a1 a2=some r):
  Calls Tryz.prog 58 #[.int .i64 a0,.int .i64 a1,.int .i64 a2] w fun e w'=>e= .returned (.bool r)∧Drawn0 w w':=by
 have H:(if a0≥a1 then(some (decide (a0≤a2)))else(some false))=some r:=h;clear h
 by_cases c4:a0≥a1
 ·rw[if_pos c4]at H;have c4b0:decide (a1≤a0)=true:=dT' c4;clear c4;obtain rfl:=Option.some.inj H;go_enter Tryz.func58,Tryz.ntmps58;go_wp2;go_ret;exact⟨by first|rfl|(simp;done)|(simp[*];done),by repeat(first|exact Drawn0.refl _|apply Drawn0.step)⟩
 ·rw[if_neg c4]at H;have c4b0:decide (a1≤a0)=false:=dF' c4;clear c4;obtain rfl:=Option.some.inj H;go_enter Tryz.func58,Tryz.ntmps58;go_wp2;go_ret;exact⟨by first|rfl|(simp;done)|(simp[*];done),by repeat(first|exact Drawn0.refl _|apply Drawn0.step)⟩
def IsS25 (w0 W:World) (g:Nat) (f0:Int) (f1:Int) (f2:Bool):Prop:=W.heap[g]? =some (.cells #[.int .i64 f0,.int .i64 f1,.bool f2] 25 (0,0))∧w0.heap.size≤g
theorem IsS25.grown {w0 W:World} {g:Nat} {f0:Int} {f1:Int} {f2:Bool} {W1:World} {row:Option Nat} (h:IsS25 w0 W g f0 f1 f2) (hw:W.grownBy W1 row) (hne:some g≠row):IsS25 w0 W1 g f0 f1 f2:=by
  obtain⟨hb,hg⟩:=h
  exact⟨blk_grown hb hw hne,hg⟩
theorem IsS25.own_neN {w0 W:World} {g:Nat} {f0:Int} {f1:Int} {f2:Bool} {α:Type} {d:Kd α} {e:Nat} {base:Nat} {ok:Nat→Prop} {v:Value} {xs:List α} (h:IsS25 w0 W g f0 f1 f2) (ho:Kd.N d e W base ok v xs) (ht:e≠25):some g≠v.ownBlock:=by
  obtain⟨hb,hg⟩:=h
  exact Kd.N_ne ho hb ht
theorem IsS25.fresh {w0 W:World} {g:Nat} {f0:Int} {f1:Int} {f2:Bool} (h:IsS25 w0 W g f0 f1 f2): ∀k,W.heap.size≤k→k≠g:=by
  obtain⟨hb,hg⟩:=h
  exact Kd.freshB hb
theorem IsS25.kept {w0 W:World} {g:Nat} {f0:Int} {f1:Int} {f2:Bool} {W1:World} {S:Nat→Prop} (h:IsS25 w0 W g f0 f1 f2) (hk:Kept W W1 S) (hne: ¬S g):IsS25 w0 W1 g f0 f1 f2:=by
  obtain⟨hb,hg⟩:=h
  exact⟨blk_kept hb hk hne,hg⟩
theorem IsS25.below {w0 W:World} {g:Nat} {f0:Int} {f1:Int} {f2:Bool} {W1:World} (h:IsS25 w0 W g f0 f1 f2) (hw:Below W.heap.size W W1):IsS25 w0 W1 g f0 f1 f2:=h.grown (grown_of_below hw none) (by simp)
theorem IsS25.alloc {w0 W:World} {g:Nat} {f0:Int} {f1:Int} {f2:Bool} (h:IsS25 w0 W g f0 f1 f2) (o:Obj):IsS25 w0 (W.alloc o) g f0 f1 f2:=h.below (below_alloc (Below.refl _ _) o)
theorem IsS25.drewN {w0 W:World} {g:Nat} {f0:Int} {f1:Int} {f2:Bool} (h:IsS25 w0 W g f0 f1 f2) (m:Nat):IsS25 w0 (W.drewN m) g f0 f1 f2:=h
theorem IsS25.drew {w0 W:World} {g:Nat} {f0:Int} {f1:Int} {f2:Bool} (h:IsS25 w0 W g f0 f1 f2):IsS25 w0 W.drew g f0 f1 f2:=h
theorem IsS25.at_ {w0 W:World} {g:Nat} {f0:Int} {f1:Int} {f2:Bool} {w':World} {m:Nat} (hq:W.drewN m=w') (h:IsS25 w0 W g f0 f1 f2):IsS25 w0 w' g f0 f1 f2:=by subst hq;exact IsS25.drewN h m
theorem IsS25.apart {w0 W:World} {g:Nat} {f0:Int} {f1:Int} {f2:Bool} {α:Type} {d:Kd α} {e:Nat} {base:Nat} {ok:Nat→Prop} {v:Value} {xs:List α} (h:IsS25 w0 W g f0 f1 f2) (ho:d.R e W base ok v xs) (ht: ∀q,q∈e :: d.E→q≠25):d.R e W base (fun k=>ok k∧k≠g) v xs:=by
  obtain⟨hb,hg⟩:=h
  exact Kd.R_types ho hb ht
theorem IsS25.own_ne {w0 W:World} {g:Nat} {f0:Int} {f1:Int} {f2:Bool} {α:Type} {d:Kd α} {e:Nat} {base:Nat} {ok:Nat→Prop} {v:Value} {xs:List α} (h:IsS25 w0 W g f0 f1 f2) (ho:d.R e W base ok v xs) (ht:e≠25):some g≠v.ownBlock:=by
  obtain⟨hb,hg⟩:=h
  exact Kd.R_ne ho hb ht
theorem IsS25.apartQ {w0 W:World} {g:Nat} {f0:Int} {f1:Int} {f2:Bool} {α:Type} {d:Kd α} {e:Nat} {base:Nat} {ok:Nat→Prop} {v:Value} {xs:List α} (h:IsS25 w0 W g f0 f1 f2) (ho:d.Q e W base ok v xs) (ht: ∀q,q∈e :: d.E→q≠25):d.Q e W base (fun k=>ok k∧k≠g) v xs:=by
  obtain⟨hb,hg⟩:=h
  exact Kd.Q_types ho hb ht
theorem IsS25.own_neQ {w0 W:World} {g:Nat} {f0:Int} {f1:Int} {f2:Bool} {α:Type} {d:Kd α} {e:Nat} {base:Nat} {ok:Nat→Prop} {v:Value} {xs:List α} (h:IsS25 w0 W g f0 f1 f2) (ho:d.Q e W base ok v xs) (ht:e≠25):some g≠v.ownBlock:=by
  obtain⟨hb,hg⟩:=h
  exact Kd.Q_ne ho hb ht
theorem IsS25.apartS {w0 W:World} {g:Nat} {f0:Int} {f1:Int} {f2:Bool} {α:Type} {d:Kd α} {e:Nat} {base:Nat} {ok:Nat→Prop} {v:Value} {xs:List α} (h:IsS25 w0 W g f0 f1 f2) (ho:d.S e W base ok v xs) (ht: ∀q,q∈e :: d.E→q≠25):d.S e W base (fun k=>ok k∧k≠g) v xs:=by
  obtain⟨hb,hg⟩:=h
  exact Kd.S_types ho hb ht
theorem IsS25.own_neS {w0 W:World} {g:Nat} {f0:Int} {f1:Int} {f2:Bool} {α:Type} {d:Kd α} {e:Nat} {base:Nat} {ok:Nat→Prop} {v:Value} {xs:List α} (h:IsS25 w0 W g f0 f1 f2) (ho:d.S e W base ok v xs) (ht:e≠25):some g≠v.ownBlock:=by
  obtain⟨hb,hg⟩:=h
  exact Kd.S_ne ho hb ht
theorem IsS25.lt {w0 W:World} {g:Nat} {f0:Int} {f1:Int} {f2:Bool} (h:IsS25 w0 W g f0 f1 f2):g<W.heap.size:=by
  obtain⟨hb,hg⟩:=h
  exact blk_lt hb
theorem IsS25.ge {w0 W:World} {g:Nat} {f0:Int} {f1:Int} {f2:Bool} (h:IsS25 w0 W g f0 f1 f2):w0.heap.size≤g:=by
  obtain⟨hb,hg⟩:=h
  exact hg
theorem IsS25.ne_blk {w0 W:World} {g:Nat} {f0:Int} {f1:Int} {f2:Bool} {a:Nat} {cs:Array Value} {t:TypeId} {fr:Nat×Nat} (h:IsS25 w0 W g f0 f1 f2) (aA:W.heap[a]? =some (.cells cs t fr)) (ht:t≠25):g≠a:=by
  obtain⟨hb,hg⟩:=h
  rintro rfl
  rw[hb]at aA
  injection aA with aA
  injection aA with _ aB
  exact ht aB.symm
theorem IsS25.far {w0 W:World} {g:Nat} {f0:Int} {f1:Int} {f2:Bool} {p:Addr} (h:IsS25 w0 W g f0 f1 f2) (hne:g≠p.block) (u:Value):IsS25 w0 (W.setCell p u) g f0 f1 f2:=by
  obtain⟨hb,hg⟩:=h
  exact⟨blk_far hb hne u,hg⟩
theorem cellS25_0 {W:World} {g:Nat} {f0:Int} {f1:Int} {f2:Bool} (h:W.heap[g]? =some (.cells #[.int .i64 f0,.int .i64 f1,.bool f2] 25 (0,0))):W.cell? ⟨g,0,none⟩=some (.int .i64 f0):=(blk_cell h 0).trans rfl
theorem IsS25.set_0 {w0 W:World} {g:Nat} {f0:Int} {f1:Int} {f2:Bool} (h:IsS25 w0 W g f0 f1 f2) (x:Int):IsS25 w0 (W.setCell ⟨g,0,none⟩ (.int .i64 x)) g x f1 f2:=by
  obtain⟨hb,hg⟩:=h
  exact⟨by simpa using blk_set hb 0 (.int .i64 x),hg⟩
theorem cellS25_1 {W:World} {g:Nat} {f0:Int} {f1:Int} {f2:Bool} (h:W.heap[g]? =some (.cells #[.int .i64 f0,.int .i64 f1,.bool f2] 25 (0,0))):W.cell? ⟨g,1,none⟩=some (.int .i64 f1):=(blk_cell h 1).trans rfl
theorem IsS25.set_1 {w0 W:World} {g:Nat} {f0:Int} {f1:Int} {f2:Bool} (h:IsS25 w0 W g f0 f1 f2) (x:Int):IsS25 w0 (W.setCell ⟨g,1,none⟩ (.int .i64 x)) g f0 x f2:=by
  obtain⟨hb,hg⟩:=h
  exact⟨by simpa using blk_set hb 1 (.int .i64 x),hg⟩
theorem cellS25_2 {W:World} {g:Nat} {f0:Int} {f1:Int} {f2:Bool} (h:W.heap[g]? =some (.cells #[.int .i64 f0,.int .i64 f1,.bool f2] 25 (0,0))):W.cell? ⟨g,2,none⟩=some (.bool f2):=(blk_cell h 2).trans rfl
theorem IsS25.set_2 {w0 W:World} {g:Nat} {f0:Int} {f1:Int} {f2:Bool} (h:IsS25 w0 W g f0 f1 f2) (x:Bool):IsS25 w0 (W.setCell ⟨g,2,none⟩ (.bool x)) g f0 f1 x:=by
  obtain⟨hb,hg⟩:=h
  exact⟨by simpa using blk_set hb 2 (.bool x),hg⟩
theorem IsS25.new (w0 W:World) (f0:Int) (f1:Int) (f2:Bool) (hB:Below w0.heap.size w0 W):IsS25 w0 (W.alloc (.cells #[.int .i64 f0,.int .i64 f1,.bool f2] 25)) W.heap.size f0 f1 f2:=⟨by simpa using heap_alloc_new W _,hB.size⟩
/-! ### spec_l05One: function 33 -/
def spec_l05One.j0:Nat→Bool→Int→Int→Bool→Option (Bool×Int×Int×Bool)
  |0,_,_,_,_=>none
  |k+1,aF,aA,aB,aC=>if aF=true then(some (false,aA,aB,aC))else(if aC=true then((spec_l00In.f (wrap64 (aB - aA)) 0 1).bind fun aD=>(some (aD,aA,aB,aC)))else((spec_l00In.f (wrap64 (aA - aB)) 0 1).bind fun aE=>(some (aE,aA,aB,aC))))
def spec_l05One.f (k:Nat) (aB:Int) (aA:Int) (aC:Bool):Option (Bool×Int×Int×Bool):=(spec_l00In.f aB 0 4).bind fun aE=>(if aE=true then((spec_l00In.f aA 0 4).bind fun aD=>(if aD=true then(spec_l05One.j0 k (decide ((wrap64 (aB+aA))<1)) aB aA aC)else(spec_l05One.j0 k true aB aA aC)))else(spec_l05One.j0 k true aB aA aC))
theorem spec_l05One.mono_l: ∀k,(∀y0 y1 y2 y3,LeO (spec_l05One.j0 k y0 y1 y2 y3) (spec_l05One.j0 (k+1) y0 y1 y2 y3))
  |0=>fun _ _ _ _ r h=>by simp[spec_l05One.j0]at h
  |k+1=>by
    have aA:=spec_l05One.mono_l k
    · intro y0 y1 y2 y3
      unfold spec_l05One.j0
      repeat' first
      |(with_reducible exact aA _ _ _ _)
      |(with_reducible exact LeO.refl _)
      |(with_reducible exact LeO.none _)
      |(with_reducible refine LeO.ite ?_ ?_)
      |(with_reducible refine LeO.bind ?_ (fun _=>?_))
      |exact LeO.none _
      |refine LeO.ite ?_ ?_
      |refine LeO.bind ?_ (fun _=>?_)
theorem spec_l05One.mono: ∀a0 a1 a2 k,LeO (spec_l05One.f k a0 a1 a2) (spec_l05One.f (k+1) a0 a1 a2):=by
  intro a0 a1 a2 k
  have aA:=spec_l05One.mono_l k
  unfold spec_l05One.f
  repeat' first
      |(with_reducible exact aA _ _ _ _)
      |(with_reducible exact LeO.refl _)
      |(with_reducible exact LeO.none _)
      |(with_reducible refine LeO.ite ?_ ?_)
      |(with_reducible refine LeO.bind ?_ (fun _=>?_))
      |exact LeO.none _
      |refine LeO.ite ?_ ?_
      |refine LeO.bind ?_ (fun _=>?_)
theorem qZ2_2 {p q:Prop} (h:q) (f:q→p:=by intro h_;repeat(first|(with_reducible first|exact h_|apply IsS25.alloc|apply IsS25.drewN|apply IsS25.drew|apply IsS25.set_0|apply IsS25.set_1|apply IsS25.set_2)|exact h_)):p:=f h
theorem qZ2_3 {p q:Prop} (h:q) (f:q→p:=by intro h_;repeat(first|(with_reducible first|exact h_|apply KeepBut.set_|apply keep_drewN|apply keep_drew|apply keep_alloc)|exact h_)):p:=f h
theorem qZ2_4 {p q r0:Prop} (h:q) (g0:r0) (f:q→r0→p:=by intro h_ g0_;repeat(first|(with_reducible first|exact h_|apply below_alloc|apply pw_below_drewN|apply below_drew1|refine below_set ?_ g0_)|exact h_)):p:=f h g0
set_option maxHeartbeats 8000000 in
set_option maxRecDepth 100000 in
theorem spec_l05One.calls (k:Nat) (g:Nat) (aA:Int) (aB:Int) (aC:Bool) (r1:Bool) (r2:Int) (r3:Int) (r4:Bool) (w0 w:World) (hI:IsS25 w0 w g aA aB aC) (hB:Below w0.heap.size w0 w) (h:spec_l05One.f k aA aB aC=some (r1,r2,r3,r4)):
    Calls Tryz.prog 33 #[.pointer (some ⟨g,0,none⟩)] w fun e w'=>e= .returned (.bool r1)∧IsS25 w0 w' g r2 r3 r4∧Below w0.heap.size w0 w'∧KeepBut w w' g none:=by
  have aF:=Aside0.mk hI
  have HK:=Aside0.mk (KeepBut.refl w g none)
  have HL:=Aside0.mk hB.size
  clear hI
  have cJ:=Aside0.mk hB.size
  have HB:=Aside0.mk hB
  clear hB
  have H:((spec_l00In.f aA 0 4).bind fun aN=>(if aN=true then((spec_l00In.f aB 0 4).bind fun aI=>(if aI=true then(spec_l05One.j0 k (decide ((wrap64 (aA+aB))<1)) aA aB aC)else(spec_l05One.j0 k true aA aB aC)))else(spec_l05One.j0 k true aA aB aC)))=some (r1,r2,r3,r4):=h
  clear h
  have bY:=Aside0.mk H
  clear H
  go_enter Tryz.func33,Tryz.ntmps33
  go_upto_region 1 with (fail)
  repeat(go_quiet (fail);go_upto_region 1 with (fail))
  go_cut [28] (fun cG wc=>∃(kq:Nat) (aM:Bool),cG= .bool aM∧Aside0 (spec_l05One.j0 kq aM aA aB aC=some (r1,r2,r3,r4))∧Aside0 (kq≤k)∧Aside0 (IsS25 w0 wc g aA aB aC)∧Aside0 (KeepBut w wc g none)∧Aside0 (Below w0.heap.size w0 wc))
  case first=>
    have H:=bY.out
    clear bY
    replace H:=Option.bind_eq_some_iff.mp H
    obtain⟨aN,cE,H⟩:=H
    replace H:(if aN=true then((spec_l00In.f aB 0 4).bind fun aI=>(if aI=true then(spec_l05One.j0 k (decide ((wrap64 (aA+aB))<1)) aA aB aC)else(spec_l05One.j0 k true aA aB aC)))else(spec_l05One.j0 k true aA aB aC))=some (r1,r2,r3,r4):=H
    have A3:=Aside0.mk cE
    clear cE
    by_cases c4:aN=true
    · subst c4
      have H1:((spec_l00In.f aB 0 4).bind fun aI=>(if aI=true then(spec_l05One.j0 k (decide ((wrap64 (aA+aB))<1)) aA aB aC)else(spec_l05One.j0 k true aA aB aC)))=some (r1,r2,r3,r4):=by rw[if_pos rfl]at H;exact H
      clear H
      have H:=H1
      clear H1
      replace H:=Option.bind_eq_some_iff.mp H
      obtain⟨aI,cF,H⟩:=H
      replace H:(if aI=true then(spec_l05One.j0 k (decide ((wrap64 (aA+aB))<1)) aA aB aC)else(spec_l05One.j0 k true aA aB aC))=some (r1,r2,r3,r4):=H
      have A5:=Aside0.mk cF
      clear cF
      by_cases c6:aI=true
      · subst c6
        have H1:(spec_l05One.j0 k (decide ((wrap64 (aA+aB))<1)) aA aB aC)=some (r1,r2,r3,r4):=by rw[if_pos rfl]at H;exact H
        clear H
        have H:=H1
        clear H1
        have H':=Aside0.mk H
        clear H
        obtain⟨aL,cA⟩:=aF.out
        have aY:=cellS25_0 aL
        have bF:=cellS25_1 aL
        have aR:=cellS25_2 aL
        have aP:=blk_frozen aL 0
        have aO:=blk_frozen aL 1
        have aQ:=blk_frozen aL 2
        clear aL cA
        go_wp2_with (first|(go_at_call 58;(with_reducible refine(spec_l00In.calls aA 0 4 true _ A3.out).mono ?_);rintro e w' ⟨rfl,⟨nd,rfl⟩⟩;(try first|exact⟨rfl,_,World.drewN_drewN _ _ _⟩|exact⟨rfl,_,Eq.trans (World.drewN_drewN _ _ _) (congrArg (World.drewN _) (Nat.add_assoc _ _ _))⟩))|(go_at_call 58;(with_reducible refine(spec_l00In.calls aB 0 4 true _ A5.out).mono ?_);rintro e w' ⟨rfl,⟨nd,rfl⟩⟩;(try first|exact⟨rfl,_,World.drewN_drewN _ _ _⟩|exact⟨rfl,_,Eq.trans (World.drewN_drewN _ _ _) (congrArg (World.drewN _) (Nat.add_assoc _ _ _))⟩)))
        repeat(go_quiet (first|(go_at_call 58;(with_reducible refine(spec_l00In.calls aA 0 4 true _ A3.out).mono ?_);rintro e w' ⟨rfl,⟨nd,rfl⟩⟩;(try first|exact⟨rfl,_,World.drewN_drewN _ _ _⟩|exact⟨rfl,_,Eq.trans (World.drewN_drewN _ _ _) (congrArg (World.drewN _) (Nat.add_assoc _ _ _))⟩))|(go_at_call 58;(with_reducible refine(spec_l00In.calls aB 0 4 true _ A5.out).mono ?_);rintro e w' ⟨rfl,⟨nd,rfl⟩⟩;(try first|exact⟨rfl,_,World.drewN_drewN _ _ _⟩|exact⟨rfl,_,Eq.trans (World.drewN_drewN _ _ _) (congrArg (World.drewN _) (Nat.add_assoc _ _ _))⟩)));try go_wp2_with (first|(go_at_call 58;(with_reducible refine(spec_l00In.calls aA 0 4 true _ A3.out).mono ?_);rintro e w' ⟨rfl,⟨nd,rfl⟩⟩;(try first|exact⟨rfl,_,World.drewN_drewN _ _ _⟩|exact⟨rfl,_,Eq.trans (World.drewN_drewN _ _ _) (congrArg (World.drewN _) (Nat.add_assoc _ _ _))⟩))|(go_at_call 58;(with_reducible refine(spec_l00In.calls aB 0 4 true _ A5.out).mono ?_);rintro e w' ⟨rfl,⟨nd,rfl⟩⟩;(try first|exact⟨rfl,_,World.drewN_drewN _ _ _⟩|exact⟨rfl,_,Eq.trans (World.drewN_drewN _ _ _) (congrArg (World.drewN _) (Nat.add_assoc _ _ _))⟩))))
        go_meet
        case rel=>exact⟨_,(decide ((wrap64 (aA+aB))<1)),(by first|rfl|(simp;done)|(simp[*];done)),H',⟨by first|omega|exact Nat.le_refl _⟩,⟨qZ2_2 aF.out⟩,⟨qZ2_3 HK.out⟩,⟨qZ2_4 HB.out (IsS25.ge aF.out)⟩⟩
      · replace c6:=Bool.eq_false_iff.mpr c6
        subst c6
        have H1:(spec_l05One.j0 k true aA aB aC)=some (r1,r2,r3,r4):=by rw[if_neg (show¬(false=true) by decide)]at H;exact H
        clear H
        have H:=H1
        clear H1
        have H':=Aside0.mk H
        clear H
        obtain⟨aK,cD⟩:=aF.out
        have bE:=cellS25_0 aK
        have aV:=cellS25_1 aK
        have aW:=cellS25_2 aK
        have aZ:=blk_frozen aK 0
        have aX:=blk_frozen aK 1
        have bC:=blk_frozen aK 2
        clear aK cD
        go_wp2_with (first|(go_at_call 58;(with_reducible refine(spec_l00In.calls aA 0 4 true _ A3.out).mono ?_);rintro e w' ⟨rfl,⟨nd,rfl⟩⟩;(try first|exact⟨rfl,_,World.drewN_drewN _ _ _⟩|exact⟨rfl,_,Eq.trans (World.drewN_drewN _ _ _) (congrArg (World.drewN _) (Nat.add_assoc _ _ _))⟩))|(go_at_call 58;(with_reducible refine(spec_l00In.calls aB 0 4 false _ A5.out).mono ?_);rintro e w' ⟨rfl,⟨nd,rfl⟩⟩;(try first|exact⟨rfl,_,World.drewN_drewN _ _ _⟩|exact⟨rfl,_,Eq.trans (World.drewN_drewN _ _ _) (congrArg (World.drewN _) (Nat.add_assoc _ _ _))⟩)))
        repeat(go_quiet (first|(go_at_call 58;(with_reducible refine(spec_l00In.calls aA 0 4 true _ A3.out).mono ?_);rintro e w' ⟨rfl,⟨nd,rfl⟩⟩;(try first|exact⟨rfl,_,World.drewN_drewN _ _ _⟩|exact⟨rfl,_,Eq.trans (World.drewN_drewN _ _ _) (congrArg (World.drewN _) (Nat.add_assoc _ _ _))⟩))|(go_at_call 58;(with_reducible refine(spec_l00In.calls aB 0 4 false _ A5.out).mono ?_);rintro e w' ⟨rfl,⟨nd,rfl⟩⟩;(try first|exact⟨rfl,_,World.drewN_drewN _ _ _⟩|exact⟨rfl,_,Eq.trans (World.drewN_drewN _ _ _) (congrArg (World.drewN _) (Nat.add_assoc _ _ _))⟩)));try go_wp2_with (first|(go_at_call 58;(with_reducible refine(spec_l00In.calls aA 0 4 true _ A3.out).mono ?_);rintro e w' ⟨rfl,⟨nd,rfl⟩⟩;(try first|exact⟨rfl,_,World.drewN_drewN _ _ _⟩|exact⟨rfl,_,Eq.trans (World.drewN_drewN _ _ _) (congrArg (World.drewN _) (Nat.add_assoc _ _ _))⟩))|(go_at_call 58;(with_reducible refine(spec_l00In.calls aB 0 4 false _ A5.out).mono ?_);rintro e w' ⟨rfl,⟨nd,rfl⟩⟩;(try first|exact⟨rfl,_,World.drewN_drewN _ _ _⟩|exact⟨rfl,_,Eq.trans (World.drewN_drewN _ _ _) (congrArg (World.drewN _) (Nat.add_assoc _ _ _))⟩))))
        go_meet
        case rel=>exact⟨_,(true),(by first|rfl|(simp;done)|(simp[*];done)),H',⟨by first|omega|exact Nat.le_refl _⟩,⟨qZ2_2 aF.out⟩,⟨qZ2_3 HK.out⟩,⟨qZ2_4 HB.out (IsS25.ge aF.out)⟩⟩
    · replace c4:=Bool.eq_false_iff.mpr c4
      subst c4
      have H1:(spec_l05One.j0 k true aA aB aC)=some (r1,r2,r3,r4):=by rw[if_neg (show¬(false=true) by decide)]at H;exact H
      clear H
      have H:=H1
      clear H1
      have H':=Aside0.mk H
      clear H
      obtain⟨aJ,bX⟩:=aF.out
      have aU:=cellS25_0 aJ
      have bA:=cellS25_1 aJ
      have aT:=cellS25_2 aJ
      have aS:=blk_frozen aJ 0
      have bD:=blk_frozen aJ 1
      have bB:=blk_frozen aJ 2
      clear aJ bX
      go_wp2_with (first|(go_at_call 58;(with_reducible refine(spec_l00In.calls aA 0 4 false _ A3.out).mono ?_);rintro e w' ⟨rfl,⟨nd,rfl⟩⟩;(try first|exact⟨rfl,_,World.drewN_drewN _ _ _⟩|exact⟨rfl,_,Eq.trans (World.drewN_drewN _ _ _) (congrArg (World.drewN _) (Nat.add_assoc _ _ _))⟩)))
      repeat(go_quiet (first|(go_at_call 58;(with_reducible refine(spec_l00In.calls aA 0 4 false _ A3.out).mono ?_);rintro e w' ⟨rfl,⟨nd,rfl⟩⟩;(try first|exact⟨rfl,_,World.drewN_drewN _ _ _⟩|exact⟨rfl,_,Eq.trans (World.drewN_drewN _ _ _) (congrArg (World.drewN _) (Nat.add_assoc _ _ _))⟩)));try go_wp2_with (first|(go_at_call 58;(with_reducible refine(spec_l00In.calls aA 0 4 false _ A3.out).mono ?_);rintro e w' ⟨rfl,⟨nd,rfl⟩⟩;(try first|exact⟨rfl,_,World.drewN_drewN _ _ _⟩|exact⟨rfl,_,Eq.trans (World.drewN_drewN _ _ _) (congrArg (World.drewN _) (Nat.add_assoc _ _ _))⟩))))
      go_meet
      case rel=>exact⟨_,(true),(by first|rfl|(simp;done)|(simp[*];done)),H',⟨by first|omega|exact Nat.le_refl _⟩,⟨qZ2_2 aF.out⟩,⟨qZ2_3 HK.out⟩,⟨qZ2_4 HB.out (IsS25.ge aF.out)⟩⟩
  case rest=>
    clear bY
    try clear p2
    try clear c3
    try clear c4
    try clear c6
    try clear p6
    try clear aY
    try clear bF
    try clear aR
    try clear bE
    try clear aV
    try clear aW
    try clear aU
    try clear bA
    try clear aT
    try clear aP
    try clear aO
    try clear aQ
    try clear aZ
    try clear aX
    try clear bC
    try clear aS
    try clear bD
    try clear bB
    obtain⟨kq,aM,rfl,HA,cH,aF,HK,HB⟩:=hcut
    cases kq with
    |zero=>exact absurd HA.out (by simp[spec_l05One.j0])
    |succ cI=>
      have H:=HA.out
      clear HA
      simp only[spec_l05One.j0]at H
      by_cases c10:aM=true
      · subst c10
        have H1:(some (false,aA,aB,aC))=some (r1,r2,r3,r4):=by rw[if_pos rfl]at H;exact H
        clear H
        have H:=H1
        clear H1
        simp only[Option.some.injEq,Prod.mk.injEq]at H
        obtain⟨rfl,rfl,rfl,rfl⟩:=H
        go_wp2
        repeat(go_quiet (fail);try go_wp2)
        go_ret
        exact⟨by first|rfl|(simp[errW_none,errW_some] <;> rfl)|(simp[*,errW_none,errW_some] <;> rfl),qZ2_2 aF.out,qZ2_4 HB.out (IsS25.ge aF.out),qZ2_3 HK.out⟩
      · replace c10:=Bool.eq_false_iff.mpr c10
        subst c10
        have H1:(if aC=true then((spec_l00In.f (wrap64 (aB - aA)) 0 1).bind fun aH=>(some (aH,aA,aB,aC)))else((spec_l00In.f (wrap64 (aA - aB)) 0 1).bind fun aG=>(some (aG,aA,aB,aC))))=some (r1,r2,r3,r4):=by rw[if_neg (show¬(false=true) by decide)]at H;exact H
        clear H
        have H:=H1
        clear H1
        by_cases bL:aC=true
        · subst bL
          have H1:((spec_l00In.f (wrap64 (aB - aA)) 0 1).bind fun aH=>(some (aH,aA,aB,true)))=some (r1,r2,r3,r4):=by rw[if_pos rfl]at H;exact H
          clear H
          have H:=H1
          clear H1
          replace H:=Option.bind_eq_some_iff.mp H
          obtain⟨aH,bJ,H⟩:=H
          replace H:(some (aH,aA,aB,true))=some (r1,r2,r3,r4):=H
          have cC:=Aside0.mk bJ
          clear bJ
          simp only[Option.some.injEq,Prod.mk.injEq]at H
          obtain⟨rfl,rfl,rfl,rfl⟩:=H
          obtain⟨aE,bH⟩:=aF.out
          have bT:=cellS25_0 aE
          have bM:=cellS25_1 aE
          have bP:=cellS25_2 aE
          have bV:=blk_frozen aE 0
          have bW:=blk_frozen aE 1
          have bK:=blk_frozen aE 2
          clear aE bH
          go_wp2_with (first|(go_at_call 58;(with_reducible refine(spec_l00In.calls (wrap64 (aB - aA)) 0 1 aH _ cC.out).mono ?_);rintro e w' ⟨rfl,⟨nd,rfl⟩⟩;(try first|exact⟨rfl,_,World.drewN_drewN _ _ _⟩|exact⟨rfl,_,Eq.trans (World.drewN_drewN _ _ _) (congrArg (World.drewN _) (Nat.add_assoc _ _ _))⟩)))
          repeat(go_quiet (first|(go_at_call 58;(with_reducible refine(spec_l00In.calls (wrap64 (aB - aA)) 0 1 aH _ cC.out).mono ?_);rintro e w' ⟨rfl,⟨nd,rfl⟩⟩;(try first|exact⟨rfl,_,World.drewN_drewN _ _ _⟩|exact⟨rfl,_,Eq.trans (World.drewN_drewN _ _ _) (congrArg (World.drewN _) (Nat.add_assoc _ _ _))⟩)));try go_wp2_with (first|(go_at_call 58;(with_reducible refine(spec_l00In.calls (wrap64 (aB - aA)) 0 1 aH _ cC.out).mono ?_);rintro e w' ⟨rfl,⟨nd,rfl⟩⟩;(try first|exact⟨rfl,_,World.drewN_drewN _ _ _⟩|exact⟨rfl,_,Eq.trans (World.drewN_drewN _ _ _) (congrArg (World.drewN _) (Nat.add_assoc _ _ _))⟩))))
          go_ret
          exact⟨by first|rfl|(simp[errW_none,errW_some] <;> rfl)|(simp[*,errW_none,errW_some] <;> rfl),qZ2_2 aF.out,qZ2_4 HB.out (IsS25.ge aF.out),qZ2_3 HK.out⟩
        · replace bL:=Bool.eq_false_iff.mpr bL
          subst bL
          have H1:((spec_l00In.f (wrap64 (aA - aB)) 0 1).bind fun aG=>(some (aG,aA,aB,false)))=some (r1,r2,r3,r4):=by rw[if_neg (show¬(false=true) by decide)]at H;exact H
          clear H
          have H:=H1
          clear H1
          replace H:=Option.bind_eq_some_iff.mp H
          obtain⟨aG,bI,H⟩:=H
          replace H:(some (aG,aA,aB,false))=some (r1,r2,r3,r4):=H
          have bZ:=Aside0.mk bI
          clear bI
          simp only[Option.some.injEq,Prod.mk.injEq]at H
          obtain⟨rfl,rfl,rfl,rfl⟩:=H
          obtain⟨aD,bG⟩:=aF.out
          have bS:=cellS25_0 aD
          have bO:=cellS25_1 aD
          have bQ:=cellS25_2 aD
          have bU:=blk_frozen aD 0
          have bN:=blk_frozen aD 1
          have bR:=blk_frozen aD 2
          clear aD bG
          go_wp2_with (first|(go_at_call 58;(with_reducible refine(spec_l00In.calls (wrap64 (aA - aB)) 0 1 aG _ bZ.out).mono ?_);rintro e w' ⟨rfl,⟨nd,rfl⟩⟩;(try first|exact⟨rfl,_,World.drewN_drewN _ _ _⟩|exact⟨rfl,_,Eq.trans (World.drewN_drewN _ _ _) (congrArg (World.drewN _) (Nat.add_assoc _ _ _))⟩)))
          repeat(go_quiet (first|(go_at_call 58;(with_reducible refine(spec_l00In.calls (wrap64 (aA - aB)) 0 1 aG _ bZ.out).mono ?_);rintro e w' ⟨rfl,⟨nd,rfl⟩⟩;(try first|exact⟨rfl,_,World.drewN_drewN _ _ _⟩|exact⟨rfl,_,Eq.trans (World.drewN_drewN _ _ _) (congrArg (World.drewN _) (Nat.add_assoc _ _ _))⟩)));try go_wp2_with (first|(go_at_call 58;(with_reducible refine(spec_l00In.calls (wrap64 (aA - aB)) 0 1 aG _ bZ.out).mono ?_);rintro e w' ⟨rfl,⟨nd,rfl⟩⟩;(try first|exact⟨rfl,_,World.drewN_drewN _ _ _⟩|exact⟨rfl,_,Eq.trans (World.drewN_drewN _ _ _) (congrArg (World.drewN _) (Nat.add_assoc _ _ _))⟩))))
          go_ret
          exact⟨by first|rfl|(simp[errW_none,errW_some] <;> rfl)|(simp[*,errW_none,errW_some] <;> rfl),qZ2_2 aF.out,qZ2_4 HB.out (IsS25.ge aF.out),qZ2_3 HK.out⟩
def AtS25 (w0 W:World) (a:Addr) (f0:Int) (f1:Int) (f2:Bool):Prop:=W.cell? a=some (.int .i64 f0)∧W.cell? ⟨a.block,a.off+1,none⟩=some (.int .i64 f1)∧W.cell? ⟨a.block,a.off+2,none⟩=some (.bool f2)
theorem AtS25.lt {w0 W:World} {a:Addr} {f0:Int} {f1:Int} {f2:Bool} (h:AtS25 w0 W a f0 f1 f2):a.block<W.heap.size:=World.block_lt_of_cell? _ _ h.1
theorem AtS25.below {w0 W:World} {a:Addr} {f0:Int} {f1:Int} {f2:Bool} {W1:World} (h:AtS25 w0 W a f0 f1 f2) (hw:Below W.heap.size W W1):AtS25 w0 W1 a f0 f1 f2:=by
  obtain⟨h0,h1,h2⟩:=h
  exact⟨(hw.cell (World.block_lt_of_cell? _ _ h0)).trans h0,(hw.cell (World.block_lt_of_cell? _ _ h1)).trans h1,(hw.cell (World.block_lt_of_cell? _ _ h2)).trans h2⟩
theorem AtS25.alloc {w0 W:World} {a:Addr} {f0:Int} {f1:Int} {f2:Bool} (h:AtS25 w0 W a f0 f1 f2) (o:Obj):AtS25 w0 (W.alloc o) a f0 f1 f2:=AtS25.below h (below_alloc (Below.refl _ _) o)
theorem AtS25.drewN {w0 W:World} {a:Addr} {f0:Int} {f1:Int} {f2:Bool} (h:AtS25 w0 W a f0 f1 f2) (m:Nat):AtS25 w0 (W.drewN m) a f0 f1 f2:=h
theorem AtS25.drew {w0 W:World} {a:Addr} {f0:Int} {f1:Int} {f2:Bool} (h:AtS25 w0 W a f0 f1 f2):AtS25 w0 W.drew a f0 f1 f2:=h
theorem AtS25.at_ {w0 W:World} {a:Addr} {f0:Int} {f1:Int} {f2:Bool} {w':World} {m:Nat} (hq:W.drewN m=w') (h:AtS25 w0 W a f0 f1 f2):AtS25 w0 w' a f0 f1 f2:=by subst hq;exact AtS25.drewN h m
theorem AtS25.far {w0 W:World} {a:Addr} {f0:Int} {f1:Int} {f2:Bool} {p:Addr} (h:AtS25 w0 W a f0 f1 f2) (hne:a.block≠p.block) (u:Value):AtS25 w0 (W.setCell p u) a f0 f1 f2:=by
  obtain⟨h0,h1,h2⟩:=h
  exact⟨(by have z_:(a:Addr).block≠p.block:=hne;rw[cell_far z_];exact h0),(by have z_:(⟨a.block,a.off+1,none⟩:Addr).block≠p.block:=hne;rw[cell_far z_];exact h1),(by have z_:(⟨a.block,a.off+2,none⟩:Addr).block≠p.block:=hne;rw[cell_far z_];exact h2)⟩
theorem AtS25.fresh {w0 W:World} {a:Addr} {f0:Int} {f1:Int} {f2:Bool} (h:AtS25 w0 W a f0 f1 f2): ∀k,W.heap.size≤k→k≠a.block:=fun k hk e=>by have:=AtS25.lt h;omega
def spec_l05One_at.f (k:Nat) (aA:Int) (aB:Int) (aC:Bool):Option (Bool):=(spec_l05One.f k aA aB aC).bind fun t=>some t.1
theorem spec_l05One_at.mono: ∀aA aB aC k,LeO (spec_l05One_at.f k aA aB aC) (spec_l05One_at.f (k+1) aA aB aC):=fun aA aB aC k=>LeO.bind (spec_l05One.mono aA aB aC k) (fun _=>LeO.refl _)
theorem qZ2_5 {p q:Prop} (h:q) (f:q→p:=by intro h_;repeat(first|(with_reducible first|exact h_|apply AtS25.alloc|apply AtS25.drewN|apply AtS25.drew)|exact h_)):p:=f h
theorem qZ2_6 {p q:Prop} (h:q) (f:q→p:=by intro h_;repeat(first|(with_reducible first|exact h_|apply below_alloc|apply pw_below_drewN|apply below_drew1)|exact h_)):p:=f h
set_option maxHeartbeats 8000000 in
set_option maxRecDepth 100000 in
theorem spec_l05One_atc.calls (k:Nat) (a_:Addr) (aA:Int) (aB:Int) (aC:Bool) (r1:Bool) (r2:Int) (r3:Int) (r4:Bool) (w0 w:World) (hI:AtS25 w0 w a_ aA aB aC) (hB:Below w0.heap.size w0 w) (h:spec_l05One.f k aA aB aC=some (r1,r2,r3,r4)):
    Calls Tryz.prog 33 #[.pointer (some a_)] w fun e w'=>e= .returned (.bool r1)∧AtS25 w0 w' a_ r2 r3 r4∧Below w0.heap.size w0 w'∧KeepBut w w' a_.block none:=by
  have aH:=Aside0.mk hI
  have HK:=Aside0.mk (KeepBut.refl w a_.block none)
  have HL:=Aside0.mk hB.size
  clear hI
  have bH:=Aside0.mk hB.size
  have HB:=Aside0.mk hB
  clear hB
  have H:((spec_l00In.f aA 0 4).bind fun aI=>(if aI=true then((spec_l00In.f aB 0 4).bind fun aF=>(if aF=true then(spec_l05One.j0 k (decide ((wrap64 (aA+aB))<1)) aA aB aC)else(spec_l05One.j0 k true aA aB aC)))else(spec_l05One.j0 k true aA aB aC)))=some (r1,r2,r3,r4):=h
  clear h
  have bC:=Aside0.mk H
  clear H
  go_enter Tryz.func33,Tryz.ntmps33
  go_upto_region 1 with (fail)
  repeat(go_quiet (fail);go_upto_region 1 with (fail))
  go_cut [28] (fun bG wc=>∃(kq:Nat) (aG:Bool),bG= .bool aG∧Aside0 (spec_l05One.j0 kq aG aA aB aC=some (r1,r2,r3,r4))∧Aside0 (kq≤k)∧Aside0 (AtS25 w0 wc a_ aA aB aC)∧Aside0 (KeepBut w wc a_.block none)∧Aside0 (Below w0.heap.size w0 wc))
  case first=>
    have H:=bC.out
    clear bC
    replace H:=Option.bind_eq_some_iff.mp H
    obtain⟨aI,bF,H⟩:=H
    replace H:(if aI=true then((spec_l00In.f aB 0 4).bind fun aF=>(if aF=true then(spec_l05One.j0 k (decide ((wrap64 (aA+aB))<1)) aA aB aC)else(spec_l05One.j0 k true aA aB aC)))else(spec_l05One.j0 k true aA aB aC))=some (r1,r2,r3,r4):=H
    have A3:=Aside0.mk bF
    clear bF
    by_cases c4:aI=true
    · subst c4
      have H1:((spec_l00In.f aB 0 4).bind fun aF=>(if aF=true then(spec_l05One.j0 k (decide ((wrap64 (aA+aB))<1)) aA aB aC)else(spec_l05One.j0 k true aA aB aC)))=some (r1,r2,r3,r4):=by rw[if_pos rfl]at H;exact H
      clear H
      have H:=H1
      clear H1
      replace H:=Option.bind_eq_some_iff.mp H
      obtain⟨aF,bE,H⟩:=H
      replace H:(if aF=true then(spec_l05One.j0 k (decide ((wrap64 (aA+aB))<1)) aA aB aC)else(spec_l05One.j0 k true aA aB aC))=some (r1,r2,r3,r4):=H
      have A5:=Aside0.mk bE
      clear bE
      by_cases c6:aF=true
      · subst c6
        have H1:(spec_l05One.j0 k (decide ((wrap64 (aA+aB))<1)) aA aB aC)=some (r1,r2,r3,r4):=by rw[if_pos rfl]at H;exact H
        clear H
        have H:=H1
        clear H1
        have H':=Aside0.mk H
        clear H
        obtain⟨aL,aR,aN⟩:=aH.out
        go_wp2_with (first|(go_at_call 58;(with_reducible refine(spec_l00In.calls aA 0 4 true _ A3.out).mono ?_);rintro e w' ⟨rfl,⟨nd,rfl⟩⟩;(try first|exact⟨rfl,_,World.drewN_drewN _ _ _⟩|exact⟨rfl,_,Eq.trans (World.drewN_drewN _ _ _) (congrArg (World.drewN _) (Nat.add_assoc _ _ _))⟩))|(go_at_call 58;(with_reducible refine(spec_l00In.calls aB 0 4 true _ A5.out).mono ?_);rintro e w' ⟨rfl,⟨nd,rfl⟩⟩;(try first|exact⟨rfl,_,World.drewN_drewN _ _ _⟩|exact⟨rfl,_,Eq.trans (World.drewN_drewN _ _ _) (congrArg (World.drewN _) (Nat.add_assoc _ _ _))⟩)))
        repeat(go_quiet (first|(go_at_call 58;(with_reducible refine(spec_l00In.calls aA 0 4 true _ A3.out).mono ?_);rintro e w' ⟨rfl,⟨nd,rfl⟩⟩;(try first|exact⟨rfl,_,World.drewN_drewN _ _ _⟩|exact⟨rfl,_,Eq.trans (World.drewN_drewN _ _ _) (congrArg (World.drewN _) (Nat.add_assoc _ _ _))⟩))|(go_at_call 58;(with_reducible refine(spec_l00In.calls aB 0 4 true _ A5.out).mono ?_);rintro e w' ⟨rfl,⟨nd,rfl⟩⟩;(try first|exact⟨rfl,_,World.drewN_drewN _ _ _⟩|exact⟨rfl,_,Eq.trans (World.drewN_drewN _ _ _) (congrArg (World.drewN _) (Nat.add_assoc _ _ _))⟩)));try go_wp2_with (first|(go_at_call 58;(with_reducible refine(spec_l00In.calls aA 0 4 true _ A3.out).mono ?_);rintro e w' ⟨rfl,⟨nd,rfl⟩⟩;(try first|exact⟨rfl,_,World.drewN_drewN _ _ _⟩|exact⟨rfl,_,Eq.trans (World.drewN_drewN _ _ _) (congrArg (World.drewN _) (Nat.add_assoc _ _ _))⟩))|(go_at_call 58;(with_reducible refine(spec_l00In.calls aB 0 4 true _ A5.out).mono ?_);rintro e w' ⟨rfl,⟨nd,rfl⟩⟩;(try first|exact⟨rfl,_,World.drewN_drewN _ _ _⟩|exact⟨rfl,_,Eq.trans (World.drewN_drewN _ _ _) (congrArg (World.drewN _) (Nat.add_assoc _ _ _))⟩))))
        go_meet
        case rel=>exact⟨_,(decide ((wrap64 (aA+aB))<1)),(by first|rfl|(simp;done)|(simp[*];done)),H',⟨by first|omega|exact Nat.le_refl _⟩,⟨qZ2_5 aH.out⟩,⟨qZ2_3 HK.out⟩,⟨qZ2_6 HB.out⟩⟩
      · replace c6:=Bool.eq_false_iff.mpr c6
        subst c6
        have H1:(spec_l05One.j0 k true aA aB aC)=some (r1,r2,r3,r4):=by rw[if_neg (show¬(false=true) by decide)]at H;exact H
        clear H
        have H:=H1
        clear H1
        have H':=Aside0.mk H
        clear H
        obtain⟨aO,aJ,aK⟩:=aH.out
        go_wp2_with (first|(go_at_call 58;(with_reducible refine(spec_l00In.calls aA 0 4 true _ A3.out).mono ?_);rintro e w' ⟨rfl,⟨nd,rfl⟩⟩;(try first|exact⟨rfl,_,World.drewN_drewN _ _ _⟩|exact⟨rfl,_,Eq.trans (World.drewN_drewN _ _ _) (congrArg (World.drewN _) (Nat.add_assoc _ _ _))⟩))|(go_at_call 58;(with_reducible refine(spec_l00In.calls aB 0 4 false _ A5.out).mono ?_);rintro e w' ⟨rfl,⟨nd,rfl⟩⟩;(try first|exact⟨rfl,_,World.drewN_drewN _ _ _⟩|exact⟨rfl,_,Eq.trans (World.drewN_drewN _ _ _) (congrArg (World.drewN _) (Nat.add_assoc _ _ _))⟩)))
        repeat(go_quiet (first|(go_at_call 58;(with_reducible refine(spec_l00In.calls aA 0 4 true _ A3.out).mono ?_);rintro e w' ⟨rfl,⟨nd,rfl⟩⟩;(try first|exact⟨rfl,_,World.drewN_drewN _ _ _⟩|exact⟨rfl,_,Eq.trans (World.drewN_drewN _ _ _) (congrArg (World.drewN _) (Nat.add_assoc _ _ _))⟩))|(go_at_call 58;(with_reducible refine(spec_l00In.calls aB 0 4 false _ A5.out).mono ?_);rintro e w' ⟨rfl,⟨nd,rfl⟩⟩;(try first|exact⟨rfl,_,World.drewN_drewN _ _ _⟩|exact⟨rfl,_,Eq.trans (World.drewN_drewN _ _ _) (congrArg (World.drewN _) (Nat.add_assoc _ _ _))⟩)));try go_wp2_with (first|(go_at_call 58;(with_reducible refine(spec_l00In.calls aA 0 4 true _ A3.out).mono ?_);rintro e w' ⟨rfl,⟨nd,rfl⟩⟩;(try first|exact⟨rfl,_,World.drewN_drewN _ _ _⟩|exact⟨rfl,_,Eq.trans (World.drewN_drewN _ _ _) (congrArg (World.drewN _) (Nat.add_assoc _ _ _))⟩))|(go_at_call 58;(with_reducible refine(spec_l00In.calls aB 0 4 false _ A5.out).mono ?_);rintro e w' ⟨rfl,⟨nd,rfl⟩⟩;(try first|exact⟨rfl,_,World.drewN_drewN _ _ _⟩|exact⟨rfl,_,Eq.trans (World.drewN_drewN _ _ _) (congrArg (World.drewN _) (Nat.add_assoc _ _ _))⟩))))
        go_meet
        case rel=>exact⟨_,(true),(by first|rfl|(simp;done)|(simp[*];done)),H',⟨by first|omega|exact Nat.le_refl _⟩,⟨qZ2_5 aH.out⟩,⟨qZ2_3 HK.out⟩,⟨qZ2_6 HB.out⟩⟩
    · replace c4:=Bool.eq_false_iff.mpr c4
      subst c4
      have H1:(spec_l05One.j0 k true aA aB aC)=some (r1,r2,r3,r4):=by rw[if_neg (show¬(false=true) by decide)]at H;exact H
      clear H
      have H:=H1
      clear H1
      have H':=Aside0.mk H
      clear H
      obtain⟨aQ,aM,aP⟩:=aH.out
      go_wp2_with (first|(go_at_call 58;(with_reducible refine(spec_l00In.calls aA 0 4 false _ A3.out).mono ?_);rintro e w' ⟨rfl,⟨nd,rfl⟩⟩;(try first|exact⟨rfl,_,World.drewN_drewN _ _ _⟩|exact⟨rfl,_,Eq.trans (World.drewN_drewN _ _ _) (congrArg (World.drewN _) (Nat.add_assoc _ _ _))⟩)))
      repeat(go_quiet (first|(go_at_call 58;(with_reducible refine(spec_l00In.calls aA 0 4 false _ A3.out).mono ?_);rintro e w' ⟨rfl,⟨nd,rfl⟩⟩;(try first|exact⟨rfl,_,World.drewN_drewN _ _ _⟩|exact⟨rfl,_,Eq.trans (World.drewN_drewN _ _ _) (congrArg (World.drewN _) (Nat.add_assoc _ _ _))⟩)));try go_wp2_with (first|(go_at_call 58;(with_reducible refine(spec_l00In.calls aA 0 4 false _ A3.out).mono ?_);rintro e w' ⟨rfl,⟨nd,rfl⟩⟩;(try first|exact⟨rfl,_,World.drewN_drewN _ _ _⟩|exact⟨rfl,_,Eq.trans (World.drewN_drewN _ _ _) (congrArg (World.drewN _) (Nat.add_assoc _ _ _))⟩))))
      go_meet
      case rel=>exact⟨_,(true),(by first|rfl|(simp;done)|(simp[*];done)),H',⟨by first|omega|exact Nat.le_refl _⟩,⟨qZ2_5 aH.out⟩,⟨qZ2_3 HK.out⟩,⟨qZ2_6 HB.out⟩⟩
  case rest=>
    clear bC
    try clear p2
    try clear c3
    try clear c4
    try clear c6
    try clear p6
    try clear aL
    try clear aR
    try clear aN
    try clear aO
    try clear aJ
    try clear aK
    try clear aQ
    try clear aM
    try clear aP
    try clear hfz7_0
    try clear hfz7_1
    try clear hfz7_2
    try clear hfz8_0
    try clear hfz8_1
    try clear hfz8_2
    try clear hfz9_0
    try clear hfz9_1
    try clear hfz9_2
    obtain⟨kq,aG,rfl,HA,bI,aH,HK,HB⟩:=hcut
    cases kq with
    |zero=>exact absurd HA.out (by simp[spec_l05One.j0])
    |succ bJ=>
      have H:=HA.out
      clear HA
      simp only[spec_l05One.j0]at H
      by_cases c10:aG=true
      · subst c10
        have H1:(some (false,aA,aB,aC))=some (r1,r2,r3,r4):=by rw[if_pos rfl]at H;exact H
        clear H
        have H:=H1
        clear H1
        simp only[Option.some.injEq,Prod.mk.injEq]at H
        obtain⟨rfl,rfl,rfl,rfl⟩:=H
        go_wp2
        repeat(go_quiet (fail);try go_wp2)
        go_ret
        exact⟨by first|rfl|(simp[errW_none,errW_some] <;> rfl)|(simp[*,errW_none,errW_some] <;> rfl),qZ2_5 aH.out,qZ2_6 HB.out,qZ2_3 HK.out⟩
      · replace c10:=Bool.eq_false_iff.mpr c10
        subst c10
        have H1:(if aC=true then((spec_l00In.f (wrap64 (aB - aA)) 0 1).bind fun aD=>(some (aD,aA,aB,aC)))else((spec_l00In.f (wrap64 (aA - aB)) 0 1).bind fun aE=>(some (aE,aA,aB,aC))))=some (r1,r2,r3,r4):=by rw[if_neg (show¬(false=true) by decide)]at H;exact H
        clear H
        have H:=H1
        clear H1
        by_cases aU:aC=true
        · subst aU
          have H1:((spec_l00In.f (wrap64 (aB - aA)) 0 1).bind fun aD=>(some (aD,aA,aB,true)))=some (r1,r2,r3,r4):=by rw[if_pos rfl]at H;exact H
          clear H
          have H:=H1
          clear H1
          replace H:=Option.bind_eq_some_iff.mp H
          obtain⟨aD,aT,H⟩:=H
          replace H:(some (aD,aA,aB,true))=some (r1,r2,r3,r4):=H
          have bB:=Aside0.mk aT
          clear aT
          simp only[Option.some.injEq,Prod.mk.injEq]at H
          obtain⟨rfl,rfl,rfl,rfl⟩:=H
          obtain⟨aY,aV,aZ⟩:=aH.out
          go_wp2_with (first|(go_at_call 58;(with_reducible refine(spec_l00In.calls (wrap64 (aB - aA)) 0 1 aD _ bB.out).mono ?_);rintro e w' ⟨rfl,⟨nd,rfl⟩⟩;(try first|exact⟨rfl,_,World.drewN_drewN _ _ _⟩|exact⟨rfl,_,Eq.trans (World.drewN_drewN _ _ _) (congrArg (World.drewN _) (Nat.add_assoc _ _ _))⟩)))
          repeat(go_quiet (first|(go_at_call 58;(with_reducible refine(spec_l00In.calls (wrap64 (aB - aA)) 0 1 aD _ bB.out).mono ?_);rintro e w' ⟨rfl,⟨nd,rfl⟩⟩;(try first|exact⟨rfl,_,World.drewN_drewN _ _ _⟩|exact⟨rfl,_,Eq.trans (World.drewN_drewN _ _ _) (congrArg (World.drewN _) (Nat.add_assoc _ _ _))⟩)));try go_wp2_with (first|(go_at_call 58;(with_reducible refine(spec_l00In.calls (wrap64 (aB - aA)) 0 1 aD _ bB.out).mono ?_);rintro e w' ⟨rfl,⟨nd,rfl⟩⟩;(try first|exact⟨rfl,_,World.drewN_drewN _ _ _⟩|exact⟨rfl,_,Eq.trans (World.drewN_drewN _ _ _) (congrArg (World.drewN _) (Nat.add_assoc _ _ _))⟩))))
          go_ret
          exact⟨by first|rfl|(simp[errW_none,errW_some] <;> rfl)|(simp[*,errW_none,errW_some] <;> rfl),qZ2_5 aH.out,qZ2_6 HB.out,qZ2_3 HK.out⟩
        · replace aU:=Bool.eq_false_iff.mpr aU
          subst aU
          have H1:((spec_l00In.f (wrap64 (aA - aB)) 0 1).bind fun aE=>(some (aE,aA,aB,false)))=some (r1,r2,r3,r4):=by rw[if_neg (show¬(false=true) by decide)]at H;exact H
          clear H
          have H:=H1
          clear H1
          replace H:=Option.bind_eq_some_iff.mp H
          obtain⟨aE,aS,H⟩:=H
          replace H:(some (aE,aA,aB,false))=some (r1,r2,r3,r4):=H
          have bD:=Aside0.mk aS
          clear aS
          simp only[Option.some.injEq,Prod.mk.injEq]at H
          obtain⟨rfl,rfl,rfl,rfl⟩:=H
          obtain⟨aW,aX,bA⟩:=aH.out
          go_wp2_with (first|(go_at_call 58;(with_reducible refine(spec_l00In.calls (wrap64 (aA - aB)) 0 1 aE _ bD.out).mono ?_);rintro e w' ⟨rfl,⟨nd,rfl⟩⟩;(try first|exact⟨rfl,_,World.drewN_drewN _ _ _⟩|exact⟨rfl,_,Eq.trans (World.drewN_drewN _ _ _) (congrArg (World.drewN _) (Nat.add_assoc _ _ _))⟩)))
          repeat(go_quiet (first|(go_at_call 58;(with_reducible refine(spec_l00In.calls (wrap64 (aA - aB)) 0 1 aE _ bD.out).mono ?_);rintro e w' ⟨rfl,⟨nd,rfl⟩⟩;(try first|exact⟨rfl,_,World.drewN_drewN _ _ _⟩|exact⟨rfl,_,Eq.trans (World.drewN_drewN _ _ _) (congrArg (World.drewN _) (Nat.add_assoc _ _ _))⟩)));try go_wp2_with (first|(go_at_call 58;(with_reducible refine(spec_l00In.calls (wrap64 (aA - aB)) 0 1 aE _ bD.out).mono ?_);rintro e w' ⟨rfl,⟨nd,rfl⟩⟩;(try first|exact⟨rfl,_,World.drewN_drewN _ _ _⟩|exact⟨rfl,_,Eq.trans (World.drewN_drewN _ _ _) (congrArg (World.drewN _) (Nat.add_assoc _ _ _))⟩))))
          go_ret
          exact⟨by first|rfl|(simp[errW_none,errW_some] <;> rfl)|(simp[*,errW_none,errW_some] <;> rfl),qZ2_5 aH.out,qZ2_6 HB.out,qZ2_3 HK.out⟩
theorem spec_l05One_at.calls (k:Nat) (a_:Addr) (aA:Int) (aB:Int) (aC:Bool) (r1:Bool) (w:World) (hI:AtS25 w w a_ aA aB aC) (h:spec_l05One_at.f k aA aB aC=some r1):
    Calls Tryz.prog 33 #[.pointer (some a_)] w fun e w'=>e= .returned (.bool r1)∧Below w.heap.size w w':=by
  obtain⟨⟨q0,s0,s1,s2⟩,ht,h⟩:=Option.bind_eq_some_iff.mp h
  simp only[Option.some.injEq]at h
  obtain rfl:=h
  refine(spec_l05One_atc.calls k a_ aA aB aC _ _ _ _ w w hI (Below.refl _ _) ht).mono ?_
  rintro e w' ⟨he,_,hb,_⟩
  exact⟨he,hb⟩
/-! ### spec_l07First: function 36 -/
def spec_l07First.f (aB:Int) (aA:Int) (aC:Bool):Option (Int×Int×Int×Bool):=if aC=true then(if(Int.tmod (wrap64 (aB+aA)) 2)=1 then(some (1,aB,aA,aC))else(some (1 - 1,aB,aA,aC)))else(if(Int.tmod (wrap64 (aB+aA)) 2)=1 then(some (0,aB,aA,aC))else(some (1 - 0,aB,aA,aC)))
set_option maxHeartbeats 8000000 in
set_option maxRecDepth 100000 in
theorem spec_l07First.calls (g:Nat) (aB:Int) (aA:Int) (aC:Bool) (r1:Int) (r2:Int) (r3:Int) (r4:Bool) (w0 w:World) (hI:IsS25 w0 w g aB aA aC) (hB:Below w0.heap.size w0 w) (h:spec_l07First.f aB aA aC=some (r1,r2,r3,r4)):
  Calls Tryz.prog 36 #[.pointer (some ⟨g,0,none⟩)] w fun e w'=>e= .returned (.int .i64 r1)∧IsS25 w0 w' g r2 r3 r4∧Below w0.heap.size w0 w'∧KeepBut w w' g none:=by
 have aH:=A' hI;have HK:=A' (KeepBut.refl w g none);have HL:=A' hB.size;clear hI;have bK:=A' hB.size;have HB:=A' hB;clear hB;have H:(if aC=true then(if(Int.tmod (wrap64 (aB+aA)) 2)=1 then(some (1,aB,aA,aC))else(some (1 - 1,aB,aA,aC)))else(if(Int.tmod (wrap64 (aB+aA)) 2)=1 then(some (0,aB,aA,aC))else(some (1 - 0,aB,aA,aC))))=some (r1,r2,r3,r4):=h;clear h
 by_cases c2:aC=true
 ·subst c2;have H1:(if(Int.tmod (wrap64 (aB+aA)) 2)=1 then(some (1,aB,aA,true))else(some (1 - 1,aB,aA,true)))=some (r1,r2,r3,r4):=by rw[if_pos rfl]at H;exact H
  clear H;have H:=H1;clear H1
  by_cases c3:(Int.tmod (wrap64 (aB+aA)) 2)=1
  ·rw[if_pos c3]at H;have c3b0:((Int.tmod (wrap64 (aB+aA)) 2) == 1)=true:=beq_iff_eq.mpr c3;have c3b1:((Int.tmod (wrap64 (aB+aA)) 2) != 1)=false:=bne_eq_false_iff_eq.mpr c3;clear c3;simp only[Option.some.injEq,Prod.mk.injEq]at H;obtain⟨rfl,rfl,rfl,rfl⟩:=H;obtain⟨aE,aL⟩:=aH.out;have aO:=cellS25_0 aE;have bG:=cellS25_1 aE;have aN:=cellS25_2 aE;have aU:=Y' aE 0;have bC:=Y' aE 1;have aR:=Y' aE 2;clear aE aL;go_enter Tryz.func36,Tryz.ntmps36;go_wp2
   repeat(go_quiet (fail);try go_wp2)
   go_ret;exact⟨qE,qZ2_2 aH.out,qZ2_1 HB.out (IsS25.ge aH.out),qZ2_3 HK.out⟩
  ·rw[if_neg c3]at H;have c3b0:((Int.tmod (wrap64 (aB+aA)) 2) == 1)=false:=beq_eq_false_iff_ne.mpr c3;have c3b1:((Int.tmod (wrap64 (aB+aA)) 2) != 1)=true:=bne_iff_ne.mpr c3;simp only[Option.some.injEq,Prod.mk.injEq]at H;obtain⟨rfl,rfl,rfl,rfl⟩:=H;obtain⟨aF,aY⟩:=aH.out;have bA:=cellS25_0 aF;have bE:=cellS25_1 aF;have aT:=cellS25_2 aF;have aK:=Y' aF 0;have bF:=Y' aF 1;have aJ:=Y' aF 2;clear aF aY;go_enter Tryz.func36,Tryz.ntmps36;go_wp2
   repeat(go_quiet (fail);try go_wp2)
   go_ret;exact⟨qE,qZ2_2 aH.out,qZ2_1 HB.out (IsS25.ge aH.out),qZ2_3 HK.out⟩
 ·replace c2:=Bool.eq_false_iff.mpr c2;subst c2;have H1:(if(Int.tmod (wrap64 (aB+aA)) 2)=1 then(some (0,aB,aA,false))else(some (1 - 0,aB,aA,false)))=some (r1,r2,r3,r4):=by rw[if_neg (show¬(false=true) by decide)]at H;exact H
  clear H;have H:=H1;clear H1
  by_cases c6:(Int.tmod (wrap64 (aB+aA)) 2)=1
  ·rw[if_pos c6]at H;have c6b0:((Int.tmod (wrap64 (aB+aA)) 2) == 1)=true:=beq_iff_eq.mpr c6;have c6b1:((Int.tmod (wrap64 (aB+aA)) 2) != 1)=false:=bne_eq_false_iff_eq.mpr c6;clear c6;simp only[Option.some.injEq,Prod.mk.injEq]at H;obtain⟨rfl,rfl,rfl,rfl⟩:=H;obtain⟨aD,bH⟩:=aH.out;have aV:=cellS25_0 aD;have bJ:=cellS25_1 aD;have aZ:=cellS25_2 aD;have aQ:=Y' aD 0;have aP:=Y' aD 1;have aW:=Y' aD 2;clear aD bH;go_enter Tryz.func36,Tryz.ntmps36;go_wp2
   repeat(go_quiet (fail);try go_wp2)
   go_ret;exact⟨qE,qZ2_2 aH.out,qZ2_1 HB.out (IsS25.ge aH.out),qZ2_3 HK.out⟩
  ·rw[if_neg c6]at H;have c6b0:((Int.tmod (wrap64 (aB+aA)) 2) == 1)=false:=beq_eq_false_iff_ne.mpr c6;have c6b1:((Int.tmod (wrap64 (aB+aA)) 2) != 1)=true:=bne_iff_ne.mpr c6;simp only[Option.some.injEq,Prod.mk.injEq]at H;obtain⟨rfl,rfl,rfl,rfl⟩:=H;obtain⟨aG,bI⟩:=aH.out;have bD:=cellS25_0 aG;have aI:=cellS25_1 aG;have aM:=cellS25_2 aG;have aX:=Y' aG 0;have aS:=Y' aG 1;have bB:=Y' aG 2;clear aG bI;go_enter Tryz.func36,Tryz.ntmps36;go_wp2
   repeat(go_quiet (fail);try go_wp2)
   go_ret;exact⟨qE,qZ2_2 aH.out,qZ2_1 HB.out (IsS25.ge aH.out),qZ2_3 HK.out⟩
/-! ### spec_PlainWay: function 13 -/
def spec_PlainWay.l0:Nat→List (S51)→List Int→Int→Int→Int→Bool→Option ((List (S51))×Int)
 |0,_,_,_,_,_,_=>none
 |k+1,x4,x5,x6,aB,aA,aC=>if(x4.length:Int)<(wrap64 (aB+aA))then(if 0≤x6 then(if x6<(x5.length:Int)then(if x4.length<8796093022208 then(spec_PlainWay.l0 k (x4 ++ [(⟨x6,rd x5 x6⟩:S51)]) (x5.set (x6:Int).toNat (wrap64 ((rd x5 x6)+1))) (wrap64 (1 - x6)) aB aA aC)else(none))else(none))else(none))else(some (x4,0))
def spec_PlainWay.f (k:Nat) (aC:Int) (aE:Int) (aD:Bool):Option ((List (S51))×Int):=(spec_l05One.f k aC aE aD).bind fun aB=>(if aB.1=true then((spec_l07First.f aB.2.1 aB.2.2.1 aB.2.2.2).bind fun aA=>(spec_PlainWay.l0 k (([]:List (S51))) (([0,0]:List Int)) aA.1 aA.2.1 aA.2.2.1 aA.2.2.2))else(some (([]:List (S51)),1)))
theorem spec_PlainWay.mono_l: ∀k,(∀y0 y1 y2 y3 y4 y5,LeO (spec_PlainWay.l0 k y0 y1 y2 y3 y4 y5) (spec_PlainWay.l0 (k+1) y0 y1 y2 y3 y4 y5))
 |0=>fun _ _ _ _ _ _ r h=>by simp[spec_PlainWay.l0]at h
 |k+1=>by
  have aA:=spec_PlainWay.mono_l k
  ·intro y0 y1 y2 y3 y4 y5
   unfold spec_PlainWay.l0
   repeat' first
   |(with_reducible exact aA _ _ _ _ _ _)
   |(with_reducible exact spec_l05One.mono _ _ _ _)
   |(with_reducible exact LeO.refl _)
   |(with_reducible exact LeO.none _)
   |(with_reducible refine LeO.ite ?_ ?_)
   |(with_reducible refine LeO.bind ?_ (fun _=>?_))
   |exact LeO.none _
   |refine LeO.ite ?_ ?_
   |refine LeO.bind ?_ (fun _=>?_)
theorem spec_PlainWay.mono: ∀a0 a1 a2 k,LeO (spec_PlainWay.f k a0 a1 a2) (spec_PlainWay.f (k+1) a0 a1 a2):=by
 intro a0 a1 a2 k
 have aA:=spec_PlainWay.mono_l k
 unfold spec_PlainWay.f
 repeat' first
   |(with_reducible exact aA _ _ _ _ _ _)
   |(with_reducible exact spec_l05One.mono _ _ _ _)
   |(with_reducible exact LeO.refl _)
   |(with_reducible exact LeO.none _)
   |(with_reducible refine LeO.ite ?_ ?_)
   |(with_reducible refine LeO.bind ?_ (fun _=>?_))
   |exact LeO.none _
   |refine LeO.ite ?_ ?_
   |refine LeO.bind ?_ (fun _=>?_)
set_option maxHeartbeats 8000000 in
set_option maxRecDepth 100000 in
theorem spec_PlainWay.calls (k:Nat) (aU:Int) (aT:Int) (aV:Bool) (r1:List (S51)) (r2:Int) (w:World) (h:spec_PlainWay.f k aU aT aV=some (r1,r2)):
  Calls Tryz.prog 13 #[.agg #[.int .i64 aU,.int .i64 aT,.bool aV]] w fun e w'=>∃v0_:Value,e= .returned (.tuple #[v0_,.int .i64 r2])∧Kd.R k51 51 w' w.heap.size (fun _=>True) v0_ r1∧Below w.heap.size w w':=by
 have eC:=Tryz.underlying25;have dU:=Tryz.underlying51;have HB:=A' (Below.refl w.heap.size w);have H:((spec_l05One.f k aU aT aV).bind fun bE=>(if bE.1=true then((spec_l07First.f bE.2.1 bE.2.2.1 bE.2.2.2).bind fun aC=>(spec_PlainWay.l0 k (([]:List (S51))) (([0,0]:List Int)) aC.1 aC.2.1 aC.2.2.1 aC.2.2.2))else(some (([]:List (S51)),1))))=some (r1,r2):=h;clear h;replace H:=Option.bind_eq_some_iff.mp H;obtain⟨⟨cK,aR,aW,aQ⟩,dQ,H⟩:=H;replace H:(if cK=true then((spec_l07First.f aR aW aQ).bind fun aC=>(spec_PlainWay.l0 k (([]:List (S51))) (([0,0]:List Int)) aC.1 aC.2.1 aC.2.2.1 aC.2.2.2))else(some (([]:List (S51)),1)))=some (r1,r2):=H;have A2:=A' dQ;clear dQ
 by_cases c3:cK=true
 ·subst c3;have H1:((spec_l07First.f aR aW aQ).bind fun aC=>(spec_PlainWay.l0 k (([]:List (S51))) (([0,0]:List Int)) aC.1 aC.2.1 aC.2.2.1 aC.2.2.2))=some (r1,r2):=by rw[if_pos rfl]at H;exact H
  clear H;have H:=H1;clear H1;obtain⟨bM,bA⟩: ∃y_:List (S51),y_=(([]:List (S51))):=⟨_,rfl⟩
  replace H:((spec_l07First.f aR aW aQ).bind fun aC=>(spec_PlainWay.l0 k bM (([0,0]:List Int)) aC.1 aC.2.1 aC.2.2.1 aC.2.2.2))=some (r1,r2):=by first|(rw[bA];with_reducible exact H)|(have H2_:=(Option.bind_some _ _).symm.trans H;rw[bA];with_reducible exact H2_)|(have H2_:=(Option.bind_some _ _).symm.trans H;with_reducible exact H2_)|with_reducible exact H|(rw[bA];exact H)|exact H
  have bP:=A' bA;clear bA;obtain⟨bW,bB⟩: ∃y_:List Int,y_=(([0,0]:List Int)):=⟨_,rfl⟩
  replace H:((spec_l07First.f aR aW aQ).bind fun aC=>(spec_PlainWay.l0 k bM bW aC.1 aC.2.1 aC.2.2.1 aC.2.2.2))=some (r1,r2):=by first|(rw[bB];with_reducible exact H)|(have H2_:=(Option.bind_some _ _).symm.trans H;rw[bB];with_reducible exact H2_)|(have H2_:=(Option.bind_some _ _).symm.trans H;with_reducible exact H2_)|with_reducible exact H|(rw[bB];exact H)|exact H
  have bO:=A' bB;clear bB;replace H:=Option.bind_eq_some_iff.mp H;obtain⟨⟨bY,aI,aK,aY⟩,dP,H⟩:=H;replace H:(spec_PlainWay.l0 k bM bW bY aI aK aY)=some (r1,r2):=H;have A4:=A' dP;clear dP;have H':=A' H;clear H;go_enter Tryz.func13,Tryz.ntmps13;go_wp2_with (first|((with_reducible refine gate_dst (N:=1) rfl ?_);refine box_event ?hg (N:=1) ?hd (cs:=#[.int .i64 aU,.int .i64 aT,.bool aV]) (t:=25) ?hr ?_;(case hd=>rfl);(case hg=>rfl);(case hr=>first|(go_simp;done)|(go_simp;rfl));intro aE hg w5 hbox hb;have n0_:=A' (W' (qK0 HB.out) hb);have n1_:=A' (hbox);have n2_:=A' ((by rw[hg];exact(V' (qK0 HB.out)):w.heap.size≤aE));have n3_:=A' ((by rw[hg];exact(V' (qK0 HB.out)):w.heap.size≤aE));clear HB;have HB:=n0_;have bH:=n1_;have cA:=n2_;have bI:=n3_;clear n0_ n1_ n2_ n3_;clear hb hbox hg;have aA:=A' (show IsS25 w w5 aE aU aT aV from⟨(qB bH.out),bI.out⟩))|((with_reducible refine gate_callee (f:=33) rfl ?_);refine goesL_ (some 7) rfl rfl Tryz.func33 (by kernel_rfl) rfl #[.pointer (some ⟨aE,0,none⟩)] rfl (by(try simp only[List.map_toArray,List.map_cons,List.map_nil]);first|done|rfl|(simp only[List.length_drop,List.length_take];rfl)) ?_;(with_reducible refine(spec_l05One.calls k aE aU aT aV true aR aW aQ w _ ?bD ?bC A2.out).mono ?_);(case bD=>repeat(first|(with_reducible first|exact aA.out|apply IsS25.alloc|apply IsS25.drewN|apply IsS25.drew|apply IsS25.set_0|apply IsS25.set_1|apply IsS25.set_2)|exact aA.out));(case bC=>repeat(first|(with_reducible first|exact HB.out|apply K'|apply F'|apply J'|refine E' ?_ (IsS25.ge aA.out))|exact HB.out));rintro e w6 ⟨rfl,hi,hb,hk⟩;refine⟨_,rfl,?_⟩;replace HB:=A' (hb);replace aA:=A' (hi);(try clear hb);(try clear hb2);(try clear hk);(try clear hi))|((with_reducible refine gate_dst (N:=9) rfl ?_);refine Kd.R_lit k51 _ 51 ?hg (N:=9) ?hd (xs:=([]:List (S51))) (inner:=[]) (ok:=fun _=>True) (okp:=fun _=>True) ?hr ?hp (fun _ hk=>hk) trivial (Below.refl _ _) (Nat.le_refl _) (by simp) ?_;(case hd=>rfl);(case hg=>rfl);(case hr=>first|(go_simp;done)|(go_simp;rfl));(case hp=>exact(Reps.none _ _));intro eD w7 cL hb hg_ hnew_;clear hg_ hnew_;(first|rw[← bP.out]at cL|(simp only[Int.reduceToNat]at cL;rw[← bP.out]at cL));have n0_:=A' (Kd.R_lower cL (V' (qZ2_1 HB.out (IsS25.ge aA.out))));have n1_:=A' (IsS25.below (qZ2_2 aA.out) hb);have n2_:=A' (W' (qZ2_1 HB.out (IsS25.ge aA.out)) hb);clear aA;clear HB;have aN:=n0_;have aA:=n1_;have HB:=n2_;clear n0_ n1_ n2_;clear hb cL)|((with_reducible refine gate_dst (N:=10) rfl ?_);refine Kd.R_lit (Kd.int .i64) _ 2 ?hg (N:=10) ?hd (xs:=([0,0]:List Int)) (inner:=[.int .i64 0,.int .i64 0]) (ok:=fun _=>True) (okp:=fun _=>True) ?hr ?hp (fun _ hk=>hk) trivial (Below.refl _ _) (Nat.le_refl _) (by simp) ?_;(case hd=>rfl);(case hg=>rfl);(case hr=>first|(go_simp;done)|(go_simp;rfl));(case hp=>exact(Reps.one (show Kd.M (Kd.int .i64) _ _ _ 0 [.int .i64 0]from rfl) (Reps.one (show Kd.M (Kd.int .i64) _ _ _ 0 [.int .i64 0]from rfl) (Reps.none _ _))));intro dH w9 bJ hb hg_ hnew_;clear hg_ hnew_;(first|rw[← bO.out]at bJ|(simp only[Int.reduceToNat]at bJ;rw[← bO.out]at bJ));have n0_:=A' (L' (qR aN.out) hb);have n1_:=A' (Kd.R_lower bJ (V' (qZ2_1 HB.out (IsS25.ge aA.out))));have n2_:=A' (IsS25.below (qZ2_2 aA.out) hb);have n3_:=A' (W' (qZ2_1 HB.out (IsS25.ge aA.out)) hb);clear aN;clear aA;clear HB;have aN:=n0_;have bG:=n1_;have aA:=n2_;have HB:=n3_;clear n0_ n1_ n2_ n3_;clear hb bJ)|((with_reducible refine gate_callee (f:=36) rfl ?_);refine goesL_ (some 11) rfl rfl Tryz.func36 (by kernel_rfl) rfl #[.pointer (some ⟨aE,0,none⟩)] rfl (by(try simp only[List.map_toArray,List.map_cons,List.map_nil]);first|done|rfl|(simp only[List.length_drop,List.length_take];rfl)) ?_;(with_reducible refine(spec_l07First.calls aE aR aW aQ bY aI aK aY w _ ?bD ?bC A4.out).mono ?_);(case bD=>repeat(first|(with_reducible first|exact aA.out|apply IsS25.alloc|apply IsS25.drewN|apply IsS25.drew|apply IsS25.set_0|apply IsS25.set_1|apply IsS25.set_2)|exact aA.out));(case bC=>repeat(first|(with_reducible first|exact HB.out|apply K'|apply F'|apply J'|refine E' ?_ (IsS25.ge aA.out))|exact HB.out));rintro e eE ⟨rfl,hi,hb,hk⟩;refine⟨_,rfl,?_⟩;replace aN:=A' (Q' (Kd.R_keep (IsS25.apart (show IsS25 w _ aE aR aW aQ from by repeat(first|(with_reducible first|exact aA.out|apply IsS25.alloc|apply IsS25.drewN|apply IsS25.drew|apply IsS25.set_0|apply IsS25.set_1|apply IsS25.set_2)|exact aA.out)) (qR aN.out) (by decide)) hk (fun _ h=>h.2)) (fun _ h=>h.1));replace bG:=A' (Q' (Kd.R_keep (IsS25.apart (show IsS25 w _ aE aR aW aQ from by repeat(first|(with_reducible first|exact aA.out|apply IsS25.alloc|apply IsS25.drewN|apply IsS25.drew|apply IsS25.set_0|apply IsS25.set_1|apply IsS25.set_2)|exact aA.out)) (qR bG.out) (by decide)) hk (fun _ h=>h.2)) (fun _ h=>h.1));replace HB:=A' (hb);replace aA:=A' (hi);(try clear hb);(try clear hb2);(try clear hk);(try clear hi)))
  go_loopg [4,6] k (fun kq v4 v6 w'=>∃(aM:List (S51)) (aG:List Int) (aD:Int),v6= .int .i64 aD∧Aside0 (spec_PlainWay.l0 kq aM aG aD aI aK aY=some (r1,r2))∧Aside0 (kq≤k)∧Aside0 (Kd.R k51 51 w' w.heap.size (fun _=>True) v4 aM)∧Aside0 (Kd.R (Kd.int .i64) 2 w' w.heap.size (fun _=>True) dH aG)∧Aside0 (IsS25 w w' aE aI aK aY)∧Aside0 (Below w.heap.size w w'))
  case atStart=>exact⟨(bM),(bW),(bY),qS,H',⟨Nat.le_refl _⟩,⟨qR aN.out⟩,⟨qR bG.out⟩,⟨qZ2_2 aA.out⟩,⟨qZ2_1 HB.out (IsS25.ge aA.out)⟩⟩
  case round=>
   clear H';try clear c1
   try clear p2
   try clear c3
   obtain⟨aM,aG,aD,rfl,HA,dS,HO_4,HO_5,aA,HB⟩:=hrel
   cases gk with
   |zero=>exact absurd HA.out (by simp[spec_PlainWay.l0])
   |succ k1=>
    have H:=HA.out;clear HA;simp only[spec_PlainWay.l0]at H
    by_cases c12:(aM.length:Int)<(wrap64 (aI+aK))
    ·rw[if_pos c12]at H;have c12b0:decide ((aM.length:Int)<(wrap64 (aI+aK)))=true:=dT' c12;clear c12
     by_cases c13:0≤aD
     ·rw[if_pos c13]at H;have c13b0:decide (0≤aD)=true:=dT' c13;clear c13
      by_cases c14:aD<(aG.length:Int)
      ·rw[if_pos c14]at H;have c14b0:decide (aD<(aG.length:Int))=true:=dT' c14;clear c14
       by_cases c15:aM.length<8796093022208
       ·rw[if_pos c15]at H;have cM:=A' c15;clear c15;obtain⟨bR,aX⟩: ∃y_:List (S51),y_=(aM ++ [(⟨aD,rd aG aD⟩:S51)]):=⟨_,rfl⟩
        replace H:(spec_PlainWay.l0 k1 bR (aG.set (aD:Int).toNat (wrap64 ((rd aG aD)+1))) (wrap64 (1 - aD)) aI aK aY)=some (r1,r2):=by first|(rw[aX];with_reducible exact H)|(have H2_:=(Option.bind_some _ _).symm.trans H;rw[aX];with_reducible exact H2_)|(have H2_:=(Option.bind_some _ _).symm.trans H;with_reducible exact H2_)|with_reducible exact H|(rw[aX];exact H)|exact H
        have cF:=A' aX;clear aX;obtain⟨bQ,aZ⟩: ∃y_:List Int,y_=(aG.set (aD:Int).toNat (wrap64 ((rd aG aD)+1))):=⟨_,rfl⟩
        replace H:(spec_PlainWay.l0 k1 bR bQ (wrap64 (1 - aD)) aI aK aY)=some (r1,r2):=by first|(rw[aZ];with_reducible exact H)|(have H2_:=(Option.bind_some _ _).symm.trans H;rw[aZ];with_reducible exact H2_)|(have H2_:=(Option.bind_some _ _).symm.trans H;with_reducible exact H2_)|with_reducible exact H|(rw[aZ];exact H)|exact H
        have cC:=A' aZ;clear aZ;have H':=A' H;clear H;obtain⟨dA,dO,dG⟩:=Kd.R_slice HO_4.out;subst dG;obtain⟨aJ,cH⟩:=aA.out;have cS:=cellS25_0 aJ;have cW:=cellS25_1 aJ;have cY:=cellS25_2 aJ;have cO:=Y' aJ 0;have cU:=Y' aJ 1;have cT:=Y' aJ 2;clear aJ cH;obtain⟨dV,cE,dE⟩:=Kd.R_slice HO_5.out;subst dE;have bS:0≤(aD:Int):=oD' qA;have bU:aD<(aG.length:Int):=oD' qA;obtain⟨cJ,dJ,bL⟩:=Kd.at_int (Kd.R_reads' HO_5.out).2.2 aD bS bU
        cases dJ
        replace bS:=eq_true bS;replace bU:=eq_true bU;go_wp2_with (first|((with_reducible refine gate_builtin (b:=.append) (xs:=#[.tmp 20,.tmp 27]) rfl ?_);at_builtin;refine Kd.R_append k51 (w0:=w) w.heap.size rfl (.tmp 20) (.tmp 27) 26 51 (.agg #[(.int .i64 0),(.int .i64 0)]) 16 rfl Tryz.underlying26 info51 rfl (by decide) (by omega) (.slice dA aM.length dO) aM (⟨aD,rd aG aD⟩:S51) [.int .i64 aD,.int .i64 (rd aG aD)] (fun _=>True) (fun _=>False) rfl rfl ?aP (fun _ hk=>hk.elim) ?aF ?aO ?aB ?aS ?aL ?_;(case aP=>exact k51_mkM _ _ _ (⟨aD,rd aG aD⟩:S51));(case aB=>exact(qZ2_1 HB.out (IsS25.ge aA.out)));(case aF=>exact(fun _ _=>trivial));(case aO=>exact(qR HO_4.out));(case aS=>exact(V' (qZ2_1 HB.out (IsS25.ge aA.out))));(case aL=>have:=cM.out;omega);intro dX dR ho hb hg hat;rw[← cF.out]at ho;have n0_:=A' (Kd.R_over' (qR HO_5.out) (Kd.R_typed (qR HO_4.out)) (by decide) hg);have n1_:=A' (IsS25.grown (show IsS25 w _ aE aI aK aY from by repeat(first|(with_reducible first|exact aA.out|apply IsS25.alloc|apply IsS25.drewN|apply IsS25.drew|apply IsS25.set_0|apply IsS25.set_1|apply IsS25.set_2)|exact aA.out)) hg (IsS25.own_ne aA.out HO_4.out (by decide)));have n2_:=A' (hb);have n3_:=A' (ho);clear HO_5;clear aA;clear HB;clear HO_4;have HO_5:=n0_;have aA:=n1_;have HB:=n2_;have bF:=n3_;clear n0_ n1_ n2_ n3_;clear ho hb hg hat;have bT:0≤(aD:Int):=oD' qA;have bX:aD<(aG.length:Int):=oD' qA;obtain⟨cN,dF,bK⟩:=Kd.at_int (Kd.R_reads' HO_5.out).2.2 aD bT bX;obtain rfl:cJ=cN:=(by injection dF);replace bT:=eq_true bT;replace bX:=eq_true bX;have dD:0≤(aD:Int):=oD' qA;have dB:(aD:Int)<((aG.length:Int):Int):=oD' qA;obtain⟨bN,eA,bZ,cG,dI,dY,cD⟩:=Kd.R_form HO_5.out (by omega);(first|cases bZ|(injection bZ with ea_ en_ ec_;(first|subst ea_|(injection ea_ with ea_;subst ea_));subst ec_;clear en_));have dL:=A' cG;have dZ:=A' cD;clear cG dI cD;(first|simp only[add_plain]at bL|skip);(first|simp only[add_plain]at bK|skip);obtain⟨dC,dN⟩:=Kd.R_celln 0 HO_5.out (aD:Int) dD dB;replace dD:=eq_true dD;replace dB:=eq_true dB;obtain⟨hy21_,hz21_⟩:=Kd.R_celln 0 HO_5.out (aD:Int) (oD' qA) (oD' qA);have bV:=Kd.R_putg HO_5.out (aD:Int) (wrap64 ((rd aG aD)+1)))|((with_reducible refine gate_store (t:=2) (p:=34) rfl ?_);refine store_event (t:=2) (p:=34) (v:=?vo_w22) (w1:=(dR.setCell ⟨bN,(aD:Int).toNat,none⟩ (.int .i64 (wrap64 ((rd aG aD)+1))))) ?hg ?ho ?hn ?hr ?_;(case ho=>rfl);(case hg=>rfl);(case hn=>rfl);(case hr=>first|(go_simp;done)|(go_simp;rfl));intro dM hw;have hg:dR.grownBy dM (some bN):=(by rw[hw];exact bV.2);have hp_:Kd.R (Kd.int .i64) 2 dM w.heap.size (fun _=>True) (.slice (some ⟨bN,0,none⟩) aG.length cE) bQ:=(by rw[hw,cC.out];exact bV.1);clear bV;have n0_:=A' (hp_);have n1_:=A' (IsS25.grown (show IsS25 w _ aE aI aK aY from by repeat(first|(with_reducible first|exact aA.out|apply IsS25.alloc|apply IsS25.drewN|apply IsS25.drew|apply IsS25.set_0|apply IsS25.set_1|apply IsS25.set_2)|exact aA.out)) hg (IsS25.own_ne aA.out HO_5.out (by decide)));have n2_:=A' (Kd.R_over' (v:=(.slice (some ⟨bN,0,none⟩) aG.length cE)) (qR bF.out) (Kd.R_typed HO_5.out) (by decide) hg);have n3_:=A' ((by rw[hw];exact E' (HB.out) dL.out:Below w.heap.size w dM));clear HO_5;clear aA;clear bF;clear HB;have HO_5:=n0_;have aA:=n1_;have bF:=n2_;have HB:=n3_;clear n0_ n1_ n2_ n3_;clear hg hw hp_))
        go_roundg k1
        case measure=>have:=dS.out;omega
        case rel=>exact⟨(bR),(bQ),(wrap64 (1 - aD)),qS,H',⟨by have:=dS.out;omega⟩,⟨qR bF.out⟩,⟨qR HO_5.out⟩,⟨qZ2_2 aA.out⟩,⟨qZ2_1 HB.out (IsS25.ge aA.out)⟩⟩
       ·rw[if_neg c15]at H;exact absurd H (by simp)
      ·rw[if_neg c14]at H;exact absurd H (by simp)
     ·rw[if_neg c13]at H;exact absurd H (by simp)
    ·rw[if_neg c12]at H;have c12b0:decide ((aM.length:Int)<(wrap64 (aI+aK)))=false:=dF' c12;clear c12;simp only[Option.some.injEq,Prod.mk.injEq]at H;obtain⟨rfl,rfl⟩:=H;obtain⟨dW,eB,dK⟩:=Kd.R_slice HO_4.out;subst dK;obtain⟨aH,cI⟩:=aA.out;have cR:=cellS25_0 aH;have cZ:=cellS25_1 aH;have cV:=cellS25_2 aH;have cX:=Y' aH 0;have cQ:=Y' aH 1;have cP:=Y' aH 2;clear aH cI;go_wp2;go_ret2;exact⟨_,qE,qR HO_4.out,qZ2_1 HB.out (IsS25.ge aA.out)⟩
 ·replace c3:=Bool.eq_false_iff.mpr c3;subst c3;have H1:(some (([]:List (S51)),1))=some (r1,r2):=by rw[if_neg (show¬(false=true) by decide)]at H;exact H
  clear H;have H:=H1;clear H1;simp only[Option.some.injEq,Prod.mk.injEq]at H;obtain⟨rfl,rfl⟩:=H;go_enter Tryz.func13,Tryz.ntmps13;go_wp2_with (first|((with_reducible refine gate_dst (N:=1) rfl ?_);refine box_event ?hg (N:=1) ?hd (cs:=#[.int .i64 aU,.int .i64 aT,.bool aV]) (t:=25) ?hr ?_;(case hd=>rfl);(case hg=>rfl);(case hr=>first|(go_simp;done)|(go_simp;rfl));intro aE hg dT hbox hb;have n0_:=A' (W' (qK0 HB.out) hb);have n1_:=A' (hbox);have n2_:=A' ((by rw[hg];exact(V' (qK0 HB.out)):w.heap.size≤aE));have n3_:=A' ((by rw[hg];exact(V' (qK0 HB.out)):w.heap.size≤aE));clear HB;have HB:=n0_;have bH:=n1_;have cA:=n2_;have bI:=n3_;clear n0_ n1_ n2_ n3_;clear hb hbox hg;have aA:=A' (show IsS25 w dT aE aU aT aV from⟨(qB bH.out),bI.out⟩))|((with_reducible refine gate_callee (f:=33) rfl ?_);refine goesL_ (some 7) rfl rfl Tryz.func33 (by kernel_rfl) rfl #[.pointer (some ⟨aE,0,none⟩)] rfl (by(try simp only[List.map_toArray,List.map_cons,List.map_nil]);first|done|rfl|(simp only[List.length_drop,List.length_take];rfl)) ?_;(with_reducible refine(spec_l05One.calls k aE aU aT aV false aR aW aQ w _ ?bD ?bC A2.out).mono ?_);(case bD=>repeat(first|(with_reducible first|exact aA.out|apply IsS25.alloc|apply IsS25.drewN|apply IsS25.drew|apply IsS25.set_0|apply IsS25.set_1|apply IsS25.set_2)|exact aA.out));(case bC=>repeat(first|(with_reducible first|exact HB.out|apply K'|apply F'|apply J'|refine E' ?_ (IsS25.ge aA.out))|exact HB.out));rintro e eF ⟨rfl,hi,hb,hk⟩;refine⟨_,rfl,?_⟩;replace HB:=A' (hb);replace aA:=A' (hi);(try clear hb);(try clear hb2);(try clear hk);(try clear hi)));go_ret2;exact⟨_,qE,by first|exact Kd.R_nil _ _ _ _ _|exact Kd.N_nil _ _ _ _ _|exact Kd.V_nil _ _ _ _ _|exact Kd.Q_nil _ _ _ _ _|exact Kd.S_nil _ _ _ _ _,qZ2_1 HB.out (IsS25.ge aA.out)⟩
/-! ### spec_l00Src_next: function 67 -/
def spec_l00Src_next.f (aB:List Int) (aA:Int) (aC:Int):Option (Int×Int×Int):=if aA<(aB.length:Int)then(if 0≤aA then(if(wrap64 (aA+1))≤(aB.length:Int)then(some (wrap64 (rd aB aA),wrap64 (aA+1),IntKind.u64.wrap ((IntKind.u64.wrap ((IntKind.u64.wrap (aC*6364136223846793005))+(IntKind.u64.wrap (wrap64 (rd aB aA)))))+1442695040888963407)))else(some (wrap64 (Go.bits .and .u64 ((IntKind.u64.wrap ((IntKind.u64.wrap ((IntKind.u64.wrap (aC*6364136223846793005))+(IntKind.u64.wrap (wrap64 (rd aB aA)))))+1442695040888963407)) / 1099511627776) 255),wrap64 (aA+1),IntKind.u64.wrap ((IntKind.u64.wrap ((IntKind.u64.wrap (aC*6364136223846793005))+(IntKind.u64.wrap (wrap64 (rd aB aA)))))+1442695040888963407))))else(none))else(if(wrap64 (aA+1))≤(aB.length:Int)then(some (0,wrap64 (aA+1),IntKind.u64.wrap ((IntKind.u64.wrap ((IntKind.u64.wrap (aC*6364136223846793005))))+1442695040888963407)))else(some (wrap64 (Go.bits .and .u64 ((IntKind.u64.wrap ((IntKind.u64.wrap ((IntKind.u64.wrap (aC*6364136223846793005))))+1442695040888963407)) / 1099511627776) 255),wrap64 (aA+1),IntKind.u64.wrap ((IntKind.u64.wrap ((IntKind.u64.wrap (aC*6364136223846793005))))+1442695040888963407))))
theorem qZ2_7 {p q:Prop} (h:q) (f:q→p:=by intro h_;repeat(first|(with_reducible first|exact h_|apply IsS100.alloc|apply IsS100.drewN|apply IsS100.drew|apply IsS100.set_1|apply IsS100.set_2)|exact h_)):p:=f h
set_option maxHeartbeats 8000000 in
set_option maxRecDepth 100000 in
theorem spec_l00Src_next.calls (g:Nat) (aB:List Int) (aA:Int) (aD:Int) (r1:Int) (r2:Int) (r3:Int) (w0 w:World) (hI:IsS100 w0 w g aB aA aD) (hB:Below w0.heap.size w0 w) (h:spec_l00Src_next.f aB aA aD=some (r1,r2,r3)):
  Calls Tryz.prog 67 #[.pointer (some ⟨g,0,none⟩)] w fun e w'=>e= .returned (.int .i64 r1)∧IsS100 w0 w' g aB r2 r3∧Below w0.heap.size w0 w'∧KeepBut w w' g none:=by
 have aK:=A' hI;have HK:=A' (KeepBut.refl w g none);have HL:=A' hB.size;clear hI;have bX:=A' hB.size;have HB:=A' hB;clear hB;have H:(if aA<(aB.length:Int)then(if 0≤aA then(if(wrap64 (aA+1))≤(aB.length:Int)then(some (wrap64 (rd aB aA),wrap64 (aA+1),IntKind.u64.wrap ((IntKind.u64.wrap ((IntKind.u64.wrap (aD*6364136223846793005))+(IntKind.u64.wrap (wrap64 (rd aB aA)))))+1442695040888963407)))else(some (wrap64 (Go.bits .and .u64 ((IntKind.u64.wrap ((IntKind.u64.wrap ((IntKind.u64.wrap (aD*6364136223846793005))+(IntKind.u64.wrap (wrap64 (rd aB aA)))))+1442695040888963407)) / 1099511627776) 255),wrap64 (aA+1),IntKind.u64.wrap ((IntKind.u64.wrap ((IntKind.u64.wrap (aD*6364136223846793005))+(IntKind.u64.wrap (wrap64 (rd aB aA)))))+1442695040888963407))))else(none))else(if(wrap64 (aA+1))≤(aB.length:Int)then(some (0,wrap64 (aA+1),IntKind.u64.wrap ((IntKind.u64.wrap ((IntKind.u64.wrap (aD*6364136223846793005))))+1442695040888963407)))else(some (wrap64 (Go.bits .and .u64 ((IntKind.u64.wrap ((IntKind.u64.wrap ((IntKind.u64.wrap (aD*6364136223846793005))))+1442695040888963407)) / 1099511627776) 255),wrap64 (aA+1),IntKind.u64.wrap ((IntKind.u64.wrap ((IntKind.u64.wrap (aD*6364136223846793005))))+1442695040888963407)))))=some (r1,r2,r3):=h;clear h
 by_cases c2:aA<(aB.length:Int)
 ·rw[if_pos c2]at H;have c2b0:decide (aA<(aB.length:Int))=true:=dT' c2;clear c2
  by_cases c3:0≤aA
  ·rw[if_pos c3]at H;have c3b0:decide (0≤aA)=true:=dT' c3;clear c3
   by_cases c4:(wrap64 (aA+1))≤(aB.length:Int)
   ·rw[if_pos c4]at H;have c4b0:decide ((wrap64 (aA+1))≤(aB.length:Int))=true:=dT' c4;clear c4;simp only[Option.some.injEq,Prod.mk.injEq]at H;obtain⟨rfl,rfl,rfl⟩:=H;obtain⟨aT,bM,aJ,bC,aL⟩:=aK.out;have bH:=cellS100_0 aJ;have bN:=cellS100_1 aJ;have bB:=cellS100_2 aJ;have bQ:=Y' aJ 1;have aR:=Y' aJ 2;clear aJ bC;have aE:0≤(aA:Int):=oD' qA;have aF:aA<(aB.length:Int):=oD' qA;obtain⟨aO,aM,aC⟩:=Kd.at_int aL aA aE aF
    cases aM
    replace aC:=pw_cell_below HB.out aC;replace aE:=eq_true aE;replace aF:=eq_true aF;go_enter Tryz.func67,Tryz.ntmps67;go_wp2
    repeat(go_quiet (fail);try go_wp2)
    go_ret;exact⟨qE,qZ2_7 aK.out,qZ2_1 HB.out (IsS100.ge aK.out),qZ2_3 HK.out⟩
   ·rw[if_neg c4]at H;have c4b0:decide ((wrap64 (aA+1))≤(aB.length:Int))=false:=dF' c4;clear c4;simp only[Option.some.injEq,Prod.mk.injEq]at H;obtain⟨rfl,rfl,rfl⟩:=H;obtain⟨aQ,bG,aG,bO,aN⟩:=aK.out;have bP:=cellS100_0 aG;have aS:=cellS100_1 aG;have bJ:=cellS100_2 aG;have bF:=Y' aG 1;have aX:=Y' aG 2;clear aG bO;have aE:0≤(aA:Int):=oD' qA;have aF:aA<(aB.length:Int):=oD' qA;obtain⟨aO,aM,aC⟩:=Kd.at_int aN aA aE aF
    cases aM
    replace aC:=pw_cell_below HB.out aC;replace aE:=eq_true aE;replace aF:=eq_true aF;go_enter Tryz.func67,Tryz.ntmps67;go_wp2
    repeat(go_quiet (fail);try go_wp2)
    go_ret;exact⟨qE,qZ2_7 aK.out,qZ2_1 HB.out (IsS100.ge aK.out),qZ2_3 HK.out⟩
  ·rw[if_neg c3]at H;exact absurd H (by simp)
 ·rw[if_neg c2]at H;have c2b0:decide (aA<(aB.length:Int))=false:=dF' c2;clear c2
  by_cases c7:(wrap64 (aA+1))≤(aB.length:Int)
  ·rw[if_pos c7]at H;have c7b0:decide ((wrap64 (aA+1))≤(aB.length:Int))=true:=dT' c7;clear c7;simp only[Option.some.injEq,Prod.mk.injEq]at H;obtain⟨rfl,rfl,rfl⟩:=H;obtain⟨aY,bT,aI,bV,bU⟩:=aK.out;have bL:=cellS100_0 aI;have aP:=cellS100_1 aI;have aU:=cellS100_2 aI;have aZ:=Y' aI 1;have bI:=Y' aI 2;clear aI bV;go_enter Tryz.func67,Tryz.ntmps67;go_wp2
   repeat(go_quiet (fail);try go_wp2)
   go_ret;exact⟨qE,qZ2_7 aK.out,qZ2_1 HB.out (IsS100.ge aK.out),qZ2_3 HK.out⟩
  ·rw[if_neg c7]at H;have c7b0:decide ((wrap64 (aA+1))≤(aB.length:Int))=false:=dF' c7;clear c7;simp only[Option.some.injEq,Prod.mk.injEq]at H;obtain⟨rfl,rfl,rfl⟩:=H;obtain⟨aW,aV,aH,bA,bW⟩:=aK.out;have bS:=cellS100_0 aH;have bD:=cellS100_1 aH;have bR:=cellS100_2 aH;have bK:=Y' aH 1;have bE:=Y' aH 2;clear aH bA;go_enter Tryz.func67,Tryz.ntmps67;go_wp2
   repeat(go_quiet (fail);try go_wp2)
   go_ret;exact⟨qE,qZ2_7 aK.out,qZ2_1 HB.out (IsS100.ge aK.out),qZ2_3 HK.out⟩
/-! ### spec_l00Src_pick: function 48 -/
def spec_l00Src_pick.f (aD:List Int) (aC:Int) (aE:Int) (a1:Int):Option (Int×Int×Int):=if a1≤1 then(some (0,aC,aE))else((spec_l00Src_next.f aD aC aE).bind fun aA=>(if a1 > 200 then((spec_l00Src_next.f aD aA.2.1 aA.2.2).bind fun aB=>(if a1=0 then(none)else(some (Int.tmod (wrap64 ((wrap64 (aA.1*256))+aB.1)) a1,aB.2.1,aB.2.2))))else(if a1=0 then(none)else(some (Int.tmod aA.1 a1,aA.2.1,aA.2.2)))))
set_option maxHeartbeats 8000000 in
set_option maxRecDepth 100000 in
theorem spec_l00Src_pick.calls (g:Nat) (aC:List Int) (aG:Int) (aH:Int) (a1:Int) (r1:Int) (r2:Int) (r3:Int) (w0 w:World) (hI:IsS100 w0 w g aC aG aH) (hB:Below w0.heap.size w0 w) (h:spec_l00Src_pick.f aC aG aH a1=some (r1,r2,r3)):
  Calls Tryz.prog 48 #[.pointer (some ⟨g,0,none⟩),.int .i64 a1] w fun e w'=>e= .returned (.int .i64 r1)∧IsS100 w0 w' g aC r2 r3∧Below w0.heap.size w0 w'∧KeepBut w w' g none:=by
 have aD:=A' hI;have HK:=A' (KeepBut.refl w g none);have HL:=A' hB.size;clear hI;have aQ:=A' hB.size;have HB:=A' hB;clear hB;have H:(if a1≤1 then(some (0,aG,aH))else((spec_l00Src_next.f aC aG aH).bind fun aB=>(if a1 > 200 then((spec_l00Src_next.f aC aB.2.1 aB.2.2).bind fun aA=>(if a1=0 then(none)else(some (Int.tmod (wrap64 ((wrap64 (aB.1*256))+aA.1)) a1,aA.2.1,aA.2.2))))else(if a1=0 then(none)else(some (Int.tmod aB.1 a1,aB.2.1,aB.2.2))))))=some (r1,r2,r3):=h;clear h
 by_cases c3:a1≤1
 ·rw[if_pos c3]at H;have c3b0:decide (a1≤1)=true:=dT' c3;clear c3;simp only[Option.some.injEq,Prod.mk.injEq]at H;obtain⟨rfl,rfl,rfl⟩:=H;go_enter Tryz.func48,Tryz.ntmps48;go_wp2;go_ret;exact⟨qE,qZ2_7 aD.out,qZ2_1 HB.out (IsS100.ge aD.out),qZ2_3 HK.out⟩
 ·rw[if_neg c3]at H;have c3b0:decide (a1≤1)=false:=dF' c3;clear c3;replace H:=Option.bind_eq_some_iff.mp H;obtain⟨⟨aK,aI,aJ⟩,aP,H⟩:=H;replace H:(if a1 > 200 then((spec_l00Src_next.f aC aI aJ).bind fun aA=>(if a1=0 then(none)else(some (Int.tmod (wrap64 ((wrap64 (aK*256))+aA.1)) a1,aA.2.1,aA.2.2))))else(if a1=0 then(none)else(some (Int.tmod aK a1,aI,aJ))))=some (r1,r2,r3):=H;have A4:=A' aP;clear aP
  by_cases c5:a1 > 200
  ·rw[if_pos c5]at H;have c5b0:decide (200<a1)=true:=dT' c5;clear c5;replace H:=Option.bind_eq_some_iff.mp H;obtain⟨⟨aN,aM,aL⟩,aO,H⟩:=H;replace H:(if a1=0 then(none)else(some (Int.tmod (wrap64 ((wrap64 (aK*256))+aN)) a1,aM,aL)))=some (r1,r2,r3):=H;have A6:=A' aO;clear aO
   by_cases c7:a1=0
   ·rw[if_pos c7]at H;exact absurd H (by simp)
   ·rw[if_neg c7]at H;have c7b0:(a1 == 0)=false:=beq_eq_false_iff_ne.mpr c7;have c7b1:(a1 != 0)=true:=bne_iff_ne.mpr c7;simp only[Option.some.injEq,Prod.mk.injEq]at H;obtain⟨rfl,rfl,rfl⟩:=H;go_enter Tryz.func48,Tryz.ntmps48;go_wp2_with (first|((with_reducible refine gate_callee (f:=67) rfl ?_);refine goesL_ (some 9) rfl rfl Tryz.func67 (by kernel_rfl) rfl #[.pointer (some ⟨g,0,none⟩)] rfl (by(try simp only[List.map_toArray,List.map_cons,List.map_nil]);first|done|rfl|(simp only[List.length_drop,List.length_take];rfl)) ?_;(with_reducible refine(spec_l00Src_next.calls g aC aG aH aK aI aJ w0 _ ?aF ?aE A4.out).mono ?_);(case aF=>repeat(first|(with_reducible first|exact aD.out|apply IsS100.alloc|apply IsS100.drewN|apply IsS100.drew|apply IsS100.set_1|apply IsS100.set_2)|exact aD.out));(case aE=>repeat(first|(with_reducible first|exact HB.out|apply K'|apply F'|apply J'|refine E' ?_ (IsS100.ge aD.out))|exact HB.out));rintro e w8 ⟨rfl,hi,hb,hk⟩;refine⟨_,rfl,?_⟩;replace HK:=A' (KeepBut.trans (qZ2_3 HK.out) hk (.inl rfl));replace HB:=A' (hb);replace aD:=A' (hi);(try clear hb);(try clear hb2);(try clear hk);(try clear hi))|((with_reducible refine gate_callee (f:=67) rfl ?_);refine goesL_ (some 15) rfl rfl Tryz.func67 (by kernel_rfl) rfl #[.pointer (some ⟨g,0,none⟩)] rfl (by(try simp only[List.map_toArray,List.map_cons,List.map_nil]);first|done|rfl|(simp only[List.length_drop,List.length_take];rfl)) ?_;(with_reducible refine(spec_l00Src_next.calls g aC aI aJ aN aM aL w0 _ ?aF ?aE A6.out).mono ?_);(case aF=>repeat(first|(with_reducible first|exact aD.out|apply IsS100.alloc|apply IsS100.drewN|apply IsS100.drew|apply IsS100.set_1|apply IsS100.set_2)|exact aD.out));(case aE=>repeat(first|(with_reducible first|exact HB.out|apply K'|apply F'|apply J'|refine E' ?_ (IsS100.ge aD.out))|exact HB.out));rintro e w9 ⟨rfl,hi,hb,hk⟩;refine⟨_,rfl,?_⟩;replace HK:=A' (KeepBut.trans (qZ2_3 HK.out) hk (.inl rfl));replace HB:=A' (hb);replace aD:=A' (hi);(try clear hb);(try clear hb2);(try clear hk);(try clear hi)));go_ret;exact⟨qE,qZ2_7 aD.out,qZ2_1 HB.out (IsS100.ge aD.out),qZ2_3 HK.out⟩
  ·rw[if_neg c5]at H;have c5b0:decide (200<a1)=false:=dF' c5;clear c5
   by_cases c10:a1=0
   ·rw[if_pos c10]at H;exact absurd H (by simp)
   ·rw[if_neg c10]at H;have c10b0:(a1 == 0)=false:=beq_eq_false_iff_ne.mpr c10;have c10b1:(a1 != 0)=true:=bne_iff_ne.mpr c10;simp only[Option.some.injEq,Prod.mk.injEq]at H;obtain⟨rfl,rfl,rfl⟩:=H;go_enter Tryz.func48,Tryz.ntmps48;go_wp2_with (first|((with_reducible refine gate_callee (f:=67) rfl ?_);refine goesL_ (some 9) rfl rfl Tryz.func67 (by kernel_rfl) rfl #[.pointer (some ⟨g,0,none⟩)] rfl (by(try simp only[List.map_toArray,List.map_cons,List.map_nil]);first|done|rfl|(simp only[List.length_drop,List.length_take];rfl)) ?_;(with_reducible refine(spec_l00Src_next.calls g aC aG aH aK aI aJ w0 _ ?aF ?aE A4.out).mono ?_);(case aF=>repeat(first|(with_reducible first|exact aD.out|apply IsS100.alloc|apply IsS100.drewN|apply IsS100.drew|apply IsS100.set_1|apply IsS100.set_2)|exact aD.out));(case aE=>repeat(first|(with_reducible first|exact HB.out|apply K'|apply F'|apply J'|refine E' ?_ (IsS100.ge aD.out))|exact HB.out));rintro e aR ⟨rfl,hi,hb,hk⟩;refine⟨_,rfl,?_⟩;replace HK:=A' (KeepBut.trans (qZ2_3 HK.out) hk (.inl rfl));replace HB:=A' (hb);replace aD:=A' (hi);(try clear hb);(try clear hb2);(try clear hk);(try clear hi)));go_ret;exact⟨qE,qZ2_7 aD.out,qZ2_1 HB.out (IsS100.ge aD.out),qZ2_3 HK.out⟩
/-! ### spec_l00Src_among: function 66 -/
def spec_l00Src_among.f (aC:List Int) (aB:Int) (aD:Int) (l1:List Int):Option (Int×Int×Int):=(spec_l00Src_pick.f aC aB aD (l1.length:Int)).bind fun aA=>(if 0≤aA.1 then(if aA.1<(l1.length:Int)then(some (rd l1 aA.1,aA.2.1,aA.2.2))else(none))else(none))
set_option maxHeartbeats 8000000 in
set_option maxRecDepth 100000 in
theorem spec_l00Src_among.calls (g:Nat) (aD:List Int) (aE:Int) (aF:Int) (A1:Option Addr) (c1:Nat) (l1:List Int) (r1:Int) (r2:Int) (r3:Int) (w0 w:World) (hI:IsS100 w0 w g aD aE aF) (hB:Below w0.heap.size w0 w) (aQ:Kd.C (Kd.int .i64) w A1 l1.length l1) (aR:l1.length≤c1) (aP: ∀ad,A1=some ad→0<l1.length→ad.block≠g) (h:spec_l00Src_among.f aD aE aF l1=some (r1,r2,r3)):
  Calls Tryz.prog 66 #[.pointer (some ⟨g,0,none⟩),.slice A1 l1.length c1] w fun e w'=>e= .returned (.int .i64 r1)∧IsS100 w0 w' g aD r2 r3∧Below w0.heap.size w0 w'∧KeepBut w w' g none:=by
 have aT:=A' aQ;have aV:=A' aR;clear aQ aR;have aI:=A' hI;have HK:=A' (KeepBut.refl w g none);have HL:=A' hB.size;clear hI;have aU:=A' hB.size;have HB:=A' hB;clear hB;have H:((spec_l00Src_pick.f aD aE aF (l1.length:Int)).bind fun aB=>(if 0≤aB.1 then(if aB.1<(l1.length:Int)then(some (rd l1 aB.1,aB.2.1,aB.2.2))else(none))else(none)))=some (r1,r2,r3):=h;clear h;replace H:=Option.bind_eq_some_iff.mp H;obtain⟨⟨aA,aK,aJ⟩,aS,H⟩:=H;replace H:(if 0≤aA then(if aA<(l1.length:Int)then(some (rd l1 aA,aK,aJ))else(none))else(none))=some (r1,r2,r3):=H;have A3:=A' aS;clear aS
 by_cases c4:0≤aA
 ·rw[if_pos c4]at H;have c4b0:decide (0≤aA)=true:=dT' c4;clear c4
  by_cases c5:aA<(l1.length:Int)
  ·rw[if_pos c5]at H;have c5b0:decide (aA<(l1.length:Int))=true:=dT' c5;clear c5;simp only[Option.some.injEq,Prod.mk.injEq]at H;obtain⟨rfl,rfl,rfl⟩:=H;go_enter Tryz.func66,Tryz.ntmps66;go_wp2_with (first|((with_reducible refine gate_callee (f:=48) rfl ?_);refine goesL_ (some 9) rfl rfl Tryz.func48 (by kernel_rfl) rfl #[.pointer (some ⟨g,0,none⟩),.int .i64 (l1.length:Int)] rfl (by(try simp only[List.map_toArray,List.map_cons,List.map_nil]);first|done|rfl|(simp only[List.length_drop,List.length_take];rfl)) ?_;(with_reducible refine(spec_l00Src_pick.calls g aD aE aF (l1.length:Int) aA aK aJ w0 _ ?aM ?aL A3.out).mono ?_);(case aM=>repeat(first|(with_reducible first|exact aI.out|apply IsS100.alloc|apply IsS100.drewN|apply IsS100.drew|apply IsS100.set_1|apply IsS100.set_2)|exact aI.out));(case aL=>repeat(first|(with_reducible first|exact HB.out|apply K'|apply F'|apply J'|refine E' ?_ (IsS100.ge aI.out))|exact HB.out));rintro e w6 ⟨rfl,hi,hb,hk⟩;refine⟨_,rfl,?_⟩;replace HK:=A' (KeepBut.trans (qZ2_3 HK.out) hk (.inl rfl));replace HB:=A' (hb);replace aI:=A' (hi);(try clear hb);(try clear hb2);(try clear hk);(try clear hi);have aH:0≤(aA:Int):=oD' qA;have aG:aA<(l1.length:Int):=oD' qA;obtain⟨aN,aO,aC⟩:=Kd.at_int aT.out aA aH aG;cases aO;replace aC:=keep_cell HK.out aC (by first|(rw[add_block];exact aP _ rfl (by omega))|exact aP _ rfl (by omega)|exact aP aN rfl (by omega));replace aH:=eq_true aH;replace aG:=eq_true aG));go_ret;exact⟨qE,qZ2_7 aI.out,qZ2_1 HB.out (IsS100.ge aI.out),qZ2_3 HK.out⟩
  ·rw[if_neg c5]at H;exact absurd H (by simp)
 ·rw[if_neg c4]at H;exact absurd H (by simp)
end Go.Proofs.YtifdihbndlmgpaaGreatDoor.HWys
