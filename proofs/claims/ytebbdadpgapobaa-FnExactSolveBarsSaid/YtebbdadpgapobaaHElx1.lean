-- Written by a program for this claim (the functions that the statement reaches, and that the program's code comes to them).
import Derived.Test.YtebbdadpgapobaaHElx0
namespace Go.Proofs.Ytebbdadpgapobaa.HEl
open Go.RowKit Go.Proofs.YtebbdadpgapobaaW.PrintWords Go.Proofs.YtebbdadpgapobaaW.PrintLast Go.Proofs.YtebbdadpgapobaaW.PrintMore
attribute [local go_sem] max2_int min2_int max_two min_two max_three min_three max_four min_four
set_option linter.unusedVariables false
set_option linter.unusedSimpArgs false
/-! ### laws_szKnotS: function 47 -/
def laws_szKnotS.f (l0:List (S126)) (a1:Int):Option (Int):=if(wrap64 (a1 - (l0.length:Int)))<0 then(some (-1))else(some (wrap64 (a1 - (l0.length:Int))))
set_option maxHeartbeats 8000000 in
set_option maxRecDepth 100000 in
theorem laws_szKnotS.calls (A0:Option Addr) (c0:Nat) (l0:List (S126)) (a1:Int) (r:Int) (w:World) (aA:Kd.C k126 w A0 l0.length l0) (aB:l0.length≤c0) (h:laws_szKnotS.f l0 a1=some r):
 Calls Try.prog 47 #[.slice A0 l0.length c0,.int .i64 a1] w fun e w'=>e= .returned (.int .i64 r)∧Drawn0 w w':=by
 have aC:=Aside0.mk aA
 have aD:=Aside0.mk aB
 clear aA aB
 have H:(if(wrap64 (a1 - (l0.length:Int)))<0 then(some (-1))else(some (wrap64 (a1 - (l0.length:Int)))))=some r:=h
 clear h
 by_cases c3:(wrap64 (a1 - (l0.length:Int)))<0
 ·rw[if_pos c3]at H
  have c3b0:decide ((wrap64 (a1 - (l0.length:Int)))<0)=true:=decide_eq_true c3
  clear c3
  obtain rfl:=Option.some.inj H
  go_enter Try.func47,Try.ntmps47
  go_wp2
  go_ret
  exact⟨by first|rfl|(simp;done)|(simp[*];done),by repeat(first|exact Drawn0.refl _|apply Drawn0.step)⟩
 ·rw[if_neg c3]at H
  have c3b0:decide ((wrap64 (a1 - (l0.length:Int)))<0)=false:=decide_eq_false c3
  clear c3
  obtain rfl:=Option.some.inj H
  go_enter Try.func47,Try.ntmps47
  go_wp2
  go_ret
  exact⟨by first|rfl|(simp;done)|(simp[*];done),by repeat(first|exact Drawn0.refl _|apply Drawn0.step)⟩
/-! ### laws_szBarS: function 48 -/
def laws_szBarS.f (l0:List (S128)) (a1:Int):Option (Int):=if(wrap64 (a1 - (l0.length:Int)))<0 then(some (-1))else(some (wrap64 (a1 - (l0.length:Int))))
set_option maxHeartbeats 8000000 in
set_option maxRecDepth 100000 in
theorem laws_szBarS.calls (A0:Option Addr) (c0:Nat) (l0:List (S128)) (a1:Int) (r:Int) (w:World) (aA:Kd.C k128 w A0 l0.length l0) (aB:l0.length≤c0) (h:laws_szBarS.f l0 a1=some r):
 Calls Try.prog 48 #[.slice A0 l0.length c0,.int .i64 a1] w fun e w'=>e= .returned (.int .i64 r)∧Drawn0 w w':=by
 have aC:=Aside0.mk aA
 have aD:=Aside0.mk aB
 clear aA aB
 have H:(if(wrap64 (a1 - (l0.length:Int)))<0 then(some (-1))else(some (wrap64 (a1 - (l0.length:Int)))))=some r:=h
 clear h
 by_cases c3:(wrap64 (a1 - (l0.length:Int)))<0
 ·rw[if_pos c3]at H
  have c3b0:decide ((wrap64 (a1 - (l0.length:Int)))<0)=true:=decide_eq_true c3
  clear c3
  obtain rfl:=Option.some.inj H
  go_enter Try.func48,Try.ntmps48
  go_wp2
  go_ret
  exact⟨by first|rfl|(simp;done)|(simp[*];done),by repeat(first|exact Drawn0.refl _|apply Drawn0.step)⟩
 ·rw[if_neg c3]at H
  have c3b0:decide ((wrap64 (a1 - (l0.length:Int)))<0)=false:=decide_eq_false c3
  clear c3
  obtain rfl:=Option.some.inj H
  go_enter Try.func48,Try.ntmps48
  go_wp2
  go_ret
  exact⟨by first|rfl|(simp;done)|(simp[*];done),by repeat(first|exact Drawn0.refl _|apply Drawn0.step)⟩
/-! ### laws_szFrame: function 7 -/
def laws_szFrame.f (aD:List (S126)) (aC:List (S128)) (a1:Int):Option (Int):=(laws_szKnotS.f aD a1).bind fun aB=>(if aB<0 then(some (-1))else((laws_szBarS.f aC aB).bind fun aA=>(if aA<0 then(some (-1))else(some aA))))
set_option maxHeartbeats 8000000 in
set_option maxRecDepth 100000 in
theorem laws_szFrame.calls (aI:Option Addr) (aJ:Nat) (aC:List (S126)) (aL:Option Addr) (aM:Nat) (aD:List (S128)) (a1:Int) (r:Int) (w:World) (aQ:Kd.C k126 w aI aC.length aC) (aT:aC.length≤aJ) (aU:Kd.C k128 w aL aD.length aD) (aS:aD.length≤aM) (h:laws_szFrame.f aC aD a1=some r):
 Calls Try.prog 7 #[.agg #[.slice aI aC.length aJ,.slice aL aD.length aM],.int .i64 a1] w fun e w'=>e= .returned (.int .i64 r)∧Below w.heap.size w w':=by
 have bL:=Try.underlying25;have aO:=A' aQ;have aN:=A' aT;clear aQ aT;have aP:=A' aU;have aR:=A' aS;clear aU aS;have HB:=A' (Below.refl w.heap.size w);have H:((laws_szKnotS.f aC a1).bind fun aE=>(if aE<0 then(some (-1))else((laws_szBarS.f aD aE).bind fun aH=>(if aH<0 then(some (-1))else(some aH)))))=some r:=h;clear h;replace H:=Option.bind_eq_some_iff.mp H;obtain⟨aE,bK,H⟩:=H;replace H:(if aE<0 then(some (-1))else((laws_szBarS.f aD aE).bind fun aH=>(if aH<0 then(some (-1))else(some aH))))=some r:=H;have A3:=A' bK;clear bK
 by_cases c4:aE<0
 ·rw[if_pos c4]at H;have c4b0:decide (aE<0)=true:=dT' c4;clear c4;obtain rfl:=Option.some.inj H;go_enter Try.func7,Try.ntmps7;go_wp2_with (first|((with_reducible refine gate_dst (N:=2) rfl ?_);refine box_event ?hg (N:=2) ?hd (cs:=#[.slice aI aC.length aJ,.slice aL aD.length aM]) (t:=25) ?hr ?_;(case hd=>rfl);(case hg=>rfl);(case hr=>first|(go_simp;done)|(go_simp;rfl));intro aB hg w5 hbox hb;have n0_:=A' (W' (qK0 HB.out) hb);have n1_:=A' (hbox);have n2_:=A' ((by rw[hg];exact(V' (qK0 HB.out)):w.heap.size≤aB));have n3_:=A' ((by rw[hg];exact(V' (qK0 HB.out)):w.heap.size≤aB));clear HB;have HB:=n0_;have aA:=n1_;have aV:=n2_;have aK:=n3_;clear n0_ n1_ n2_ n3_;clear hb hbox hg;have bG:w5.cell? ⟨aB,0,none⟩=some (.slice aI aC.length aJ):=(N' aA.out 0).trans rfl;have bE:w5.cell? ⟨aB,1,none⟩=some (.slice aL aD.length aM):=(N' aA.out 1).trans rfl;have bF:=Y' aA.out 0;have bH:=Y' aA.out 1)|((with_reducible refine gate_callee (f:=47) rfl ?_);refine goesL_ (some 8) rfl rfl Try.func47 (by kernel_rfl) rfl #[.slice aI aC.length aJ,.int .i64 a1] rfl (by(try simp only[List.map_toArray,List.map_cons,List.map_nil]);first|done|rfl|(simp only[List.length_drop,List.length_take];rfl)) ?_;(with_reducible refine(laws_szKnotS.calls _ _ aC a1 aE _ ?aG ?aF A3.out).mono ?_);(case aG=>exact qT (X' aO.out HB.out));(case aF=>exact aN.out);rintro e w' ⟨rfl,⟨nd,rfl⟩⟩;refine⟨_,rfl,?_⟩));go_ret;exact⟨qE,qK1 HB.out aK.out⟩
 ·rw[if_neg c4]at H;have c4b0:decide (aE<0)=false:=dF' c4;clear c4;replace H:=Option.bind_eq_some_iff.mp H;obtain⟨aH,bJ,H⟩:=H;replace H:(if aH<0 then(some (-1))else(some aH))=some r:=H;have A7:=A' bJ;clear bJ
  by_cases c8:aH<0
  ·rw[if_pos c8]at H;have c8b0:decide (aH<0)=true:=dT' c8;clear c8;obtain rfl:=Option.some.inj H;go_enter Try.func7,Try.ntmps7;go_wp2_with (first|((with_reducible refine gate_dst (N:=2) rfl ?_);refine box_event ?hg (N:=2) ?hd (cs:=#[.slice aI aC.length aJ,.slice aL aD.length aM]) (t:=25) ?hr ?_;(case hd=>rfl);(case hg=>rfl);(case hr=>first|(go_simp;done)|(go_simp;rfl));intro aB hg w9 hbox hb;have n0_:=A' (W' (qK0 HB.out) hb);have n1_:=A' (hbox);have n2_:=A' ((by rw[hg];exact(V' (qK0 HB.out)):w.heap.size≤aB));have n3_:=A' ((by rw[hg];exact(V' (qK0 HB.out)):w.heap.size≤aB));clear HB;have HB:=n0_;have aA:=n1_;have aV:=n2_;have aK:=n3_;clear n0_ n1_ n2_ n3_;clear hb hbox hg;have aZ:w9.cell? ⟨aB,0,none⟩=some (.slice aI aC.length aJ):=(N' aA.out 0).trans rfl;have aY:w9.cell? ⟨aB,1,none⟩=some (.slice aL aD.length aM):=(N' aA.out 1).trans rfl;have bA:=Y' aA.out 0;have bC:=Y' aA.out 1)|((with_reducible refine gate_callee (f:=47) rfl ?_);refine goesL_ (some 8) rfl rfl Try.func47 (by kernel_rfl) rfl #[.slice aI aC.length aJ,.int .i64 a1] rfl (by(try simp only[List.map_toArray,List.map_cons,List.map_nil]);first|done|rfl|(simp only[List.length_drop,List.length_take];rfl)) ?_;(with_reducible refine(laws_szKnotS.calls _ _ aC a1 aE _ ?aG ?aF A3.out).mono ?_);(case aG=>exact qT (X' aO.out HB.out));(case aF=>exact aN.out);rintro e w' ⟨rfl,⟨nd,rfl⟩⟩;refine⟨_,rfl,?_⟩)|((with_reducible refine gate_callee (f:=48) rfl ?_);refine goesL_ (some 14) rfl rfl Try.func48 (by kernel_rfl) rfl #[.slice aL aD.length aM,.int .i64 aE] rfl (by(try simp only[List.map_toArray,List.map_cons,List.map_nil]);first|done|rfl|(simp only[List.length_drop,List.length_take];rfl)) ?_;(with_reducible refine(laws_szBarS.calls _ _ aD aE aH _ ?aG ?aF A7.out).mono ?_);(case aG=>repeat(first|exact(X' aP.out (qK1 HB.out aK.out))|(with_reducible refine R' ?_ _)|(with_reducible refine S' ?_ _)|(with_reducible refine T' ?_)));(case aF=>exact aR.out);rintro e w' ⟨rfl,⟨nd,rfl⟩⟩;refine⟨_,rfl,?_⟩));go_ret;exact⟨qE,qK1 HB.out aK.out⟩
  ·rw[if_neg c8]at H;have c8b0:decide (aH<0)=false:=dF' c8;clear c8;obtain rfl:=Option.some.inj H;go_enter Try.func7,Try.ntmps7;go_wp2_with (first|((with_reducible refine gate_dst (N:=2) rfl ?_);refine box_event ?hg (N:=2) ?hd (cs:=#[.slice aI aC.length aJ,.slice aL aD.length aM]) (t:=25) ?hr ?_;(case hd=>rfl);(case hg=>rfl);(case hr=>first|(go_simp;done)|(go_simp;rfl));intro aB hg bI hbox hb;have n0_:=A' (W' (qK0 HB.out) hb);have n1_:=A' (hbox);have n2_:=A' ((by rw[hg];exact(V' (qK0 HB.out)):w.heap.size≤aB));have n3_:=A' ((by rw[hg];exact(V' (qK0 HB.out)):w.heap.size≤aB));clear HB;have HB:=n0_;have aA:=n1_;have aV:=n2_;have aK:=n3_;clear n0_ n1_ n2_ n3_;clear hb hbox hg;have bB:bI.cell? ⟨aB,0,none⟩=some (.slice aI aC.length aJ):=(N' aA.out 0).trans rfl;have aW:bI.cell? ⟨aB,1,none⟩=some (.slice aL aD.length aM):=(N' aA.out 1).trans rfl;have bD:=Y' aA.out 0;have aX:=Y' aA.out 1)|((with_reducible refine gate_callee (f:=47) rfl ?_);refine goesL_ (some 8) rfl rfl Try.func47 (by kernel_rfl) rfl #[.slice aI aC.length aJ,.int .i64 a1] rfl (by(try simp only[List.map_toArray,List.map_cons,List.map_nil]);first|done|rfl|(simp only[List.length_drop,List.length_take];rfl)) ?_;(with_reducible refine(laws_szKnotS.calls _ _ aC a1 aE _ ?aG ?aF A3.out).mono ?_);(case aG=>exact qT (X' aO.out HB.out));(case aF=>exact aN.out);rintro e w' ⟨rfl,⟨nd,rfl⟩⟩;refine⟨_,rfl,?_⟩)|((with_reducible refine gate_callee (f:=48) rfl ?_);refine goesL_ (some 14) rfl rfl Try.func48 (by kernel_rfl) rfl #[.slice aL aD.length aM,.int .i64 aE] rfl (by(try simp only[List.map_toArray,List.map_cons,List.map_nil]);first|done|rfl|(simp only[List.length_drop,List.length_take];rfl)) ?_;(with_reducible refine(laws_szBarS.calls _ _ aD aE aH _ ?aG ?aF A7.out).mono ?_);(case aG=>repeat(first|exact(X' aP.out (qK1 HB.out aK.out))|(with_reducible refine R' ?_ _)|(with_reducible refine S' ?_ _)|(with_reducible refine T' ?_)));(case aF=>exact aR.out);rintro e w' ⟨rfl,⟨nd,rfl⟩⟩;refine⟨_,rfl,?_⟩));go_ret;exact⟨qE,qK1 HB.out aK.out⟩
/-! ### spec_l00In: function 82 -/
def spec_l00In.f (a0:Int) (a1:Int) (a2:Int):Option (Bool):=if a0≥a1 then(some (decide (a0≤a2)))else(some false)
set_option maxHeartbeats 8000000 in
set_option maxRecDepth 100000 in
theorem spec_l00In.calls (a0:Int) (a1:Int) (a2:Int) (r:Bool) (w:World) (h:spec_l00In.f a0 a1 a2=some r):
 Calls Try.prog 82 #[.int .i64 a0,.int .i64 a1,.int .i64 a2] w fun e w'=>e= .returned (.bool r)∧Drawn0 w w':=by
 have H:(if a0≥a1 then(some (decide (a0≤a2)))else(some false))=some r:=h
 clear h
 by_cases c4:a0≥a1
 ·rw[if_pos c4]at H
  have c4b0:decide (a1≤a0)=true:=decide_eq_true c4
  clear c4
  obtain rfl:=Option.some.inj H
  go_enter Try.func82,Try.ntmps82
  go_wp2
  go_ret
  exact⟨by first|rfl|(simp;done)|(simp[*];done),by repeat(first|exact Drawn0.refl _|apply Drawn0.step)⟩
 ·rw[if_neg c4]at H
  have c4b0:decide (a1≤a0)=false:=decide_eq_false c4
  clear c4
  obtain rfl:=Option.some.inj H
  go_enter Try.func82,Try.ntmps82
  go_wp2
  go_ret
  exact⟨by first|rfl|(simp;done)|(simp[*];done),by repeat(first|exact Drawn0.refl _|apply Drawn0.step)⟩
/-! ### spec_l09Ok: function 59 (by hand) -/
theorem and_f1 {a b c d:Int} (h: ¬c=d):(a == b && c == d)=false:=by simp[h]
theorem and_f0 {a b c d:Int} (h: ¬a=b):(a == b && c == d)=false:=by simp[h]
def anyK (l:List S90) (a b:Int):Bool:=l.any fun o=>o.f0 == a && o.f1 == b
def anyB (l:List S104) (a b:Int):Bool:=l.any fun o=>o.f0 == a && o.f1 == b
theorem anyK_drop {l:List S90} {i:Nat} (h:i<l.length) (a b:Int):anyK (l.drop i) a b=((l[i].f0 == a && l[i].f1 == b) || anyK (l.drop (i+1)) a b):=by
 rw[List.drop_eq_getElem_cons h];rfl
theorem anyB_drop {l:List S104} {i:Nat} (h:i<l.length) (a b:Int):anyB (l.drop i) a b=((l[i].f0 == a && l[i].f1 == b) || anyB (l.drop (i+1)) a b):=by
 rw[List.drop_eq_getElem_cons h];rfl
def knotOk (pre:List S90) (k:S90):Bool:=decide (0≤k.f0∧k.f0≤12) && decide (0≤k.f1∧k.f1≤12) && !anyK pre k.f0 k.f1
def fixK (ks:List S90) (a:Int):Bool:=(rd_T90 ks a).f2
def barOk (ks:List S90) (pre:List S104) (b:S104):Bool:=decide (0≤b.f0∧b.f0<b.f1∧b.f1<(ks.length:Int)) && !(fixK ks b.f0 && fixK ks b.f1) && !anyB pre b.f0 b.f1
def okKs:List S90→List S90→Bool
 |_,[]=>true
 |pre,k :: l=>knotOk pre k && okKs (pre ++ [k]) l
def okBs (ks:List S90):List S104→List S104→Bool
 |_,[]=>true
 |pre,b :: l=>barOk ks pre b && okBs ks (pre ++ [b]) l
def freeC (ks:List S90):Nat:=(ks.filter fun k=>!k.f2).length
def okF (ks:List S90) (bs:List S104):Bool:=decide (ks.length≤8) && decide (bs.length≤8) && (okKs [] ks && (okBs ks [] bs && decide (freeC ks≤3)))
theorem okKs_step {l:List S90} {i:Nat} (h:i<l.length):okKs (l.take i) (l.drop i)=(knotOk (l.take i) l[i] && okKs (l.take (i+1)) (l.drop (i+1))):=by
 rw[List.drop_eq_getElem_cons h,List.take_succ_eq_append_getElem h];rfl
theorem okBs_step (ks:List S90) {l:List S104} {i:Nat} (h:i<l.length):okBs ks (l.take i) (l.drop i)=(barOk ks (l.take i) l[i] && okBs ks (l.take (i+1)) (l.drop (i+1))):=by
 rw[List.drop_eq_getElem_cons h,List.take_succ_eq_append_getElem h];rfl
theorem freeC_step {l:List S90} {i:Nat} (h:i<l.length):freeC (l.take (i+1))=freeC (l.take i)+if l[i].f2=true then 0 else 1:=by
 rw[List.take_succ_eq_append_getElem h];unfold freeC;rw[List.filter_append,List.length_append]
 congr 1
 cases h':l[i].f2 <;> simp[List.filter,h']
theorem freeC_le (l:List S90):freeC l≤l.length:=List.length_filter_le ..
theorem rdK_ {l:List S90} {i:Nat} (h:i<l.length):rd_T90 l (i:Int)=l[i]:=by unfold rd_T90;simp[List.getD_eq_getElem?_getD,h]
theorem rdB_ {l:List S104} {i:Nat} (h:i<l.length):rd_T104 l (i:Int)=l[i]:=by unfold rd_T104;simp[List.getD_eq_getElem?_getD,h]
theorem in_ (a b c:Int):spec_l00In.f a b c=some (decide (b≤a∧a≤c)):=by unfold spec_l00In.f;by_cases h:a≥b <;> simp[h]
theorem in_y {a b c:Int} (h:b≤a∧a≤c):spec_l00In.f a b c=some true:=by rw[in_,decide_eq_true h]
theorem in_n {a b c:Int} (h: ¬(b≤a∧a≤c)):spec_l00In.f a b c=some false:=by rw[in_,decide_eq_false h]
def spec_l09Ok.f (_:Nat) (ks:List S90) (bs:List S104):Option Bool:=some (okF ks bs)
theorem spec_l09Ok.mono: ∀a0 a1 k,LeO (spec_l09Ok.f k a0 a1) (spec_l09Ok.f (k+1) a0 a1):=fun _ _ _=>LeO.refl _
section
open Go.Proofs.Ytebbdadpgapobaa.Red
set_option maxHeartbeats 8000000 in
set_option maxRecDepth 100000 in
theorem spec_l09Ok.calls (k:Nat) (aU:Nat) (aK:Option Addr) (aL:Nat) (aA:List S90) (aJ:Option Addr) (aO:Nat) (aB:List S104) (r:Bool) (w:World) (aM:w.heap[aU]? =some (.cells #[.slice aK aA.length aL,.slice aJ aB.length aO] 33 (0,0))) (aG:Kd.C k90 w aK aA.length aA) (aN:aA.length≤aL) (aF:Kd.C k104 w aJ aB.length aB) (aI:aB.length≤aO) (h:spec_l09Ok.f k aA aB=some r):
 Calls Try.prog 59 #[.pointer (some ⟨aU,0,none⟩)] w fun e w'=>e= .returned (.bool r)∧Below w.heap.size w w':=by
 obtain rfl:=Option.some.inj h
 obtain⟨n,hn⟩: ∃n,n=aA.length:=⟨_,rfl⟩
 obtain⟨nb,hnb⟩: ∃n,n=aB.length:=⟨_,rfl⟩
 obtain⟨r,hr⟩: ∃r,r=okF aA aB:=⟨_,rfl⟩
 obtain⟨R1,aP⟩: ∃b,b=decide (freeC aA≤3):=⟨_,rfl⟩
 obtain⟨R2,aQ⟩: ∃b,b=(okBs aA [] aB && R1):=⟨_,rfl⟩
 rw[← hr]
 rw[← hn,← hnb]at aM
 have HN:=Aside0.mk (And.intro hn hnb)
 have HR:=Aside0.mk (And.intro aM (And.intro aG aF))
 have HRr:=Aside0.mk (show r=(decide (n≤8) && decide (nb≤8) && (okKs [] aA && R2))∧R2=(okBs aA [] aB && R1)∧R1=decide (freeC aA≤3)from⟨by rw[hr,aQ,aP,hn,hnb];rfl,aQ,aP⟩)
 have q0:=(blk_cell aM 0).trans rfl
 have q1:=(blk_cell aM 1).trans rfl
 clear h hr aP aQ hn hnb aM aG aF aN aI
 go_enter Try.func59,Try.ntmps59
 by_cases c1:n≤8
 ·have d1:decide ((n:Int) > 8)=false:=decide_eq_false (by omega)
  by_cases c2:nb≤8
  ·have d2:decide ((nb:Int) > 8)=false:=decide_eq_false (by omega)
   have C8:=Aside0.mk (show n≤8∧nb≤8∧r=(okKs [] aA && R2)from⟨c1,c2,by rw[HRr.out.1,decide_eq_true c1,decide_eq_true c2];rfl⟩)
   clear c1 c2
   go_wp2_with (fail)
   clear q0 q1
   go_loopg [4,5] (n+1) (fun kq v4 v5 w'=>∃(i:Nat) (ii f:Int),v4= .int .i64 f∧v5= .int .i64 ii∧Aside0 (ii=(i:Int)∧i+kq=n+1∧1≤kq∧f=(freeC (aA.take i):Int))∧Aside0 (Below w.heap.size w w')∧Aside0 (r=(okKs (aA.take i) (aA.drop i) && R2)))
   case atStart=>exact⟨0,0,0,rfl,rfl,⟨rfl,by omega,by omega,rfl⟩,⟨Below.refl _ _⟩,⟨by rw[C8.out.2.2];simp⟩⟩
   case round=>
    obtain⟨i,ii,f,rfl,rfl,HI,HB,HZ⟩:=hrel
    obtain⟨gq,rfl⟩: ∃k,gk=k+1:=⟨gk - 1,by have:=HI.out;omega⟩
    have q0:=(blk_cell (blk_below HR.out.1 HB.out) 0).trans rfl
    have q1:=(blk_cell (blk_below HR.out.1 HB.out) 1).trans rfl
    by_cases c3:i<n
    ·have d3:decide (ii<(n:Int))=true:=decide_eq_true (by have:=HI.out;omega)
     have hil:i<aA.length:=by have:=HN.out;omega
     obtain⟨ad,had,h0,h1,h2⟩:=at_T90 (Kd.C_below HR.out.2.1 HB.out) ii (by have:=HI.out;omega) (by have:=HI.out;omega)
     subst had
     rw[show rd_T90 aA ii=aA[i]from by rw[HI.out.1,rdK_ hil]]at h0 h1 h2
     obtain⟨x,hx⟩: ∃z,z=aA[i].f0:=⟨_,rfl⟩
     obtain⟨y,hy⟩: ∃z,z=aA[i].f1:=⟨_,rfl⟩
     obtain⟨fx,hfx⟩: ∃z,z=aA[i].f2:=⟨_,rfl⟩
     have hs:=okKs_step hil
     have hf:=freeC_step hil
     have hfl:=freeC_le (aA.take i)
     rw[List.length_take]at hfl
     rw[← hfx]at hf
     rw[show knotOk (aA.take i) aA[i]=(decide (0≤x∧x≤12) && decide (0≤y∧y≤12) && !anyK (aA.take i) x y)from by rw[hx,hy];rfl]at hs
     rw[← hx]at h0
     rw[← hy]at h1
     rw[← hfx]at h2
     have HS:=Aside0.mk (And.intro hs (And.intro hf hfl))
     have p1:(0≤ii)=True:=eq_true (by have:=HI.out;omega)
     have p2:(ii<(n:Int))=True:=eq_true (by have:=HI.out;omega)
     have C3:=Aside0.mk (And.intro c3 hil)
     clear c3 hil hx hy hfx hs hf hfl
     go_upto_region 9 with (fail)
     obtain⟨gK,hgK⟩: ∃z,z=wr.heap.size:=⟨_,rfl⟩
     obtain⟨w1,aE⟩: ∃z,z=wr.alloc (.cells #[.int .i64 x,.int .i64 y,.bool fx] 90 (0,0)):=⟨_,rfl⟩
     rw[← hgK,← aE]
     have H1:=Aside0.mk (show w1.heap[gK]? =some (.cells #[.int .i64 x,.int .i64 y,.bool fx] 90 (0,0))∧Below w.heap.size w w1 from⟨by rw[aE,hgK];exact alloc_at _ _,by rw[aE];exact below_alloc HB.out _⟩)
     clear hgK aE HB q0 q1 h0 h1 h2
     have k0:=(blk_cell H1.out.1 0).trans rfl
     have k1:=(blk_cell H1.out.1 1).trans rfl
     have k2:=(blk_cell H1.out.1 2).trans rfl
     by_cases cx:0≤x∧x≤12
     ·by_cases cy:0≤y∧y≤12
      ·have HXY:=Aside0.mk (show r=((!anyK (aA.take i) x y && okKs (aA.take (i+1)) (aA.drop (i+1))) && R2)from by rw[HZ.out,HS.out.1,decide_eq_true cx,decide_eq_true cy];simp)
       have CX:=Aside0.mk (And.intro (in_y cx) (in_y cy))
       obtain⟨f2,aR⟩: ∃f2:Int,f2=(freeC (aA.take (i+1)):Int):=⟨_,rfl⟩
       have aV:=Aside0.mk aR
       have aH:f2=f+if fx=true then 0 else 1:=by rw[aR,HS.out.2.1,HI.out.2.2.2];split <;> simp
       clear cx cy HZ aR
       have hcase:(fx=true∧f2=f)∨(fx=false∧f2=f+1∧wrap64 (f+1)=f2):=by
        cases fx with
        |true=>exact .inl ⟨rfl,by rw[aH,if_pos rfl,Int.add_zero]⟩
        |false=>
         rw[if_neg (by simp)]at aH
         exact .inr ⟨rfl,aH,by rw[aH];exact wrap_id _ (by have:=HI.out;omega) (by have:=HI.out;have:=HS.out;have:=C8.out;omega)⟩
       clear aH
       rcases hcase with ⟨rfl,rfl⟩|⟨rfl,aH,aY⟩
       all_goals
        go_wp2_with (first
         |(go_at_call 82;(with_reducible refine(spec_l00In.calls x 0 12 true _ CX.out.1).mono ?_);rintro e w' ⟨rfl,⟨nd,rfl⟩⟩;(try first|exact⟨rfl,_,World.drewN_drewN _ _ _⟩|exact⟨rfl,_,Eq.trans (World.drewN_drewN _ _ _) (congrArg (World.drewN _) (Nat.add_assoc _ _ _))⟩))
         |(go_at_call 82;(with_reducible refine(spec_l00In.calls y 0 12 true _ CX.out.2).mono ?_);rintro e w' ⟨rfl,⟨nd,rfl⟩⟩;(try first|exact⟨rfl,_,World.drewN_drewN _ _ _⟩|exact⟨rfl,_,Eq.trans (World.drewN_drewN _ _ _) (congrArg (World.drewN _) (Nat.add_assoc _ _ _))⟩)))
        go_loopg [7] (i+1) (fun kq v7 w'=>∃(j:Nat) (jj:Int),v7= .int .i64 jj∧Aside0 (jj=(j:Int)∧j+kq=i+1∧1≤kq)∧Aside0 (Below w.heap.size w w'∧ ∃fb,w'.heap[gK]? =some (.cells #[.int .i64 x,.int .i64 y,.bool fb] 90 (0,0)))∧Aside0 (r=((!anyK ((aA.take i).drop j) x y && okKs (aA.take (i+1)) (aA.drop (i+1))) && R2)))
        case atStart=>exact⟨0,0,rfl,⟨rfl,by omega,by omega⟩,⟨pw_below_drewN H1.out.2 _,_,H1.out.1⟩,⟨HXY.out⟩⟩
        case round=>
         obtain⟨j,jj,rfl,HJ,HB,HY⟩:=hrel
         obtain⟨gs,rfl⟩: ∃k,gk=k+1:=⟨gk - 1,by have:=HJ.out;omega⟩
         clear k0 k1 k2
         obtain⟨aW,fb,hfb⟩:=HB.out
         have HBW:=Aside0.mk aW
         clear HB aW
         have k0:=(blk_cell hfb 0).trans rfl
         have k1:=(blk_cell hfb 1).trans rfl
         have HFB:=Aside0.mk hfb
         clear hfb
         have q0:=(blk_cell (blk_below HR.out.1 HBW.out) 0).trans rfl
         by_cases c5:j<i
         ·have d4:decide (jj<ii)=true:=decide_eq_true (by have:=HJ.out;have:=HI.out;omega)
          have hjl:j<aA.length:=by have:=C3.out;omega
          obtain⟨ae,hae,e0,e1,_⟩:=at_T90 (Kd.C_below HR.out.2.1 HBW.out) jj (by have:=HJ.out;omega) (by have:=HJ.out;omega)
          injection hae with hae
          subst hae
          rw[show rd_T90 aA jj=aA[j]from by rw[HJ.out.1,rdK_ hjl]]at e0 e1
          obtain⟨xj,hxj⟩: ∃z,z=aA[j].f0:=⟨_,rfl⟩
          obtain⟨yj,hyj⟩: ∃z,z=aA[j].f1:=⟨_,rfl⟩
          have hst:=anyK_drop (l:=aA.take i) (i:=j) (by simp;omega) x y
          rw[List.getElem_take,← hxj,← hyj]at hst
          rw[← hxj]at e0
          rw[← hyj]at e1
          have p3:(0≤jj)=True:=eq_true (by have:=HJ.out;omega)
          have p4:(jj<(n:Int))=True:=eq_true (by have:=HJ.out;have:=C3.out;omega)
          have HST:=Aside0.mk hst
          have C5:=Aside0.mk c5
          clear hxj hyj hst hjl c5
          by_cases g1:xj=x
          ·have b1:(xj == x)=true:=beq_iff_eq.mpr g1
           by_cases g2:yj=y
           ·have b2:(yj == y)=true:=beq_iff_eq.mpr g2
            obtain rfl:r=false:=by rw[HY.out,HST.out,b1,b2];rfl
            clear g1 g2
            go_wp2_with (fail)
            (try(go_quiet (fail);go_wp2_with (fail)))
            go_ret
            exact⟨rfl,pw_below_drewN HBW.out _⟩
           ·have b2:(yj == y)=false:=beq_eq_false_iff_ne.mpr g2
            have aD:=Aside0.mk (show r=((!anyK ((aA.take i).drop (j+1)) x y && okKs (aA.take (i+1)) (aA.drop (i+1))) && R2)from by rw[HY.out,HST.out,b2];simp)
            clear g1 g2
            go_wp2_with (fail)
            (try(go_quiet (fail);go_wp2_with (fail)))
            go_roundg gs
            case measure=>omega
            case rel=>
             have h1:=HJ.out;have h2:=C8.out;have h3:=C3.out;have h5:=C5.out
             have hw:=wrap_id (jj+1) (by omega) (by omega)
             exact⟨j+1,jj+1,by rw[hw],⟨by omega,by omega,by omega⟩,⟨pw_below_drewN HBW.out _,_,HFB.out⟩,aD⟩
          ·have b1:(xj == x)=false:=beq_eq_false_iff_ne.mpr g1
           have aD:=Aside0.mk (show r=((!anyK ((aA.take i).drop (j+1)) x y && okKs (aA.take (i+1)) (aA.drop (i+1))) && R2)from by rw[HY.out,HST.out,b1];simp)
           clear g1
           go_wp2_with (fail)
           (try(go_quiet (fail);go_wp2_with (fail)))
           go_roundg gs
           case measure=>omega
           case rel=>
            have h1:=HJ.out;have h2:=C8.out;have h3:=C3.out;have h5:=C5.out
            have hw:=wrap_id (jj+1) (by omega) (by omega)
            exact⟨j+1,jj+1,by rw[hw],⟨by omega,by omega,by omega⟩,⟨pw_below_drewN HBW.out _,_,HFB.out⟩,aD⟩
         ·have C5:=Aside0.mk (show j=i from by have:=HJ.out;omega)
          have d4:decide (jj<ii)=false:=decide_eq_false (by have:=HJ.out;have:=HI.out;have:=C5.out;omega)
          clear c5
          go_wp2_with (fail)
          go_roundg gq
          case measure=>omega
          case rel=>
           have h1:=HI.out;have h2:=C8.out;have h3:=C3.out
           have hw:=wrap_id (ii+1) (by omega) (by omega)
           refine⟨i+1,ii+1,_,rfl,by rw[hw],⟨by omega,by omega,by omega,by first|exact aV.out|(rw[aY];exact aV.out)⟩,⟨HBW.out⟩,⟨?_⟩⟩
           rw[HY.out,C5.out,show(aA.take i).drop i= [] by simp]
           simp[anyK]
      ·have CX:=Aside0.mk (And.intro (in_y cx) (in_n cy))
       obtain rfl:r=false:=by rw[HZ.out,HS.out.1,decide_eq_false cy];simp
       clear cx cy
       go_wp2_with (first
        |(go_at_call 82;(with_reducible refine(spec_l00In.calls x 0 12 true _ CX.out.1).mono ?_);rintro e w' ⟨rfl,⟨nd,rfl⟩⟩;(try first|exact⟨rfl,_,World.drewN_drewN _ _ _⟩|exact⟨rfl,_,Eq.trans (World.drewN_drewN _ _ _) (congrArg (World.drewN _) (Nat.add_assoc _ _ _))⟩))
        |(go_at_call 82;(with_reducible refine(spec_l00In.calls y 0 12 false _ CX.out.2).mono ?_);rintro e w' ⟨rfl,⟨nd,rfl⟩⟩;(try first|exact⟨rfl,_,World.drewN_drewN _ _ _⟩|exact⟨rfl,_,Eq.trans (World.drewN_drewN _ _ _) (congrArg (World.drewN _) (Nat.add_assoc _ _ _))⟩)))
       go_ret
       exact⟨rfl,pw_below_drewN H1.out.2 _⟩
     ·have CX:=Aside0.mk (in_n cx)
      obtain rfl:r=false:=by rw[HZ.out,HS.out.1,decide_eq_false cx];simp
      clear cx
      go_wp2_with (go_at_call 82;(with_reducible refine(spec_l00In.calls x 0 12 false _ CX.out).mono ?_);rintro e w' ⟨rfl,⟨nd,rfl⟩⟩;(try first|exact⟨rfl,_,World.drewN_drewN _ _ _⟩|exact⟨rfl,_,Eq.trans (World.drewN_drewN _ _ _) (congrArg (World.drewN _) (Nat.add_assoc _ _ _))⟩))
      go_ret
      exact⟨rfl,pw_below_drewN H1.out.2 _⟩
    ·have C3:=Aside0.mk (show i=n from by have:=HI.out;omega)
     have d3:decide (ii<(n:Int))=false:=decide_eq_false (by have:=HI.out;have:=C3.out;omega)
     clear c3
     have aT:=Aside0.mk (show r=(okBs aA [] aB && R1)∧f=(freeC aA:Int)from by
      have h1:=HZ.out;have h2:=HN.out.1;have h3:=HI.out.2.2.2
      rw[C3.out,h2,List.drop_length,List.take_length]at h1
      rw[C3.out,h2,List.take_length]at h3
      exact⟨by rw[h1,HRr.out.2.1];rfl,h3⟩)
     clear HZ
     have hwn:wrap64 ((n:Int) - 1)=(n:Int) - 1:=wrap_id _ (by have:=C8.out;omega) (by have:=C8.out;omega)
     go_wp2_with (fail)
     go_loopg [8] (nb+1) (fun kq v8 w'=>∃(i:Nat) (ii:Int),v8= .int .i64 ii∧Aside0 (ii=(i:Int)∧i+kq=nb+1∧1≤kq)∧Aside0 (Below w.heap.size w w')∧Aside0 (r=(okBs aA (aB.take i) (aB.drop i) && R1)))
     case atStart=>exact⟨0,0,rfl,⟨rfl,by omega,by omega⟩,HB,⟨by rw[aT.out.1];simp⟩⟩
     case round=>
      obtain⟨i,ii,rfl,HI,HB,HZ⟩:=hrel
      obtain⟨gr,rfl⟩: ∃k,gk=k+1:=⟨gk - 1,by have:=HI.out;omega⟩
      clear q0 q1
      have q0:=(blk_cell (blk_below HR.out.1 HB.out) 0).trans rfl
      have q1:=(blk_cell (blk_below HR.out.1 HB.out) 1).trans rfl
      by_cases c3:i<nb
      ·have d5:decide (ii<(nb:Int))=true:=decide_eq_true (by have:=HI.out;omega)
       have hil:i<aB.length:=by have:=HN.out;omega
       obtain⟨ad,had,h0,h1,h2⟩:=at_T104 (Kd.C_below HR.out.2.2 HB.out) ii (by have:=HI.out;omega) (by have:=HI.out;omega)
       subst had
       rw[show rd_T104 aB ii=aB[i]from by rw[HI.out.1,rdB_ hil]]at h0 h1 h2
       obtain⟨a,ha⟩: ∃z,z=aB[i].f0:=⟨_,rfl⟩
       obtain⟨b,hb⟩: ∃z,z=aB[i].f1:=⟨_,rfl⟩
       have hs:=okBs_step aA hil
       rw[show barOk aA (aB.take i) aB[i]=(decide (0≤a∧a<b∧b<(n:Int)) && !(fixK aA a && fixK aA b) && !anyB (aB.take i) a b)from by rw[ha,hb,HN.out.1];rfl]at hs
       rw[← ha]at h0
       rw[← hb]at h1
       obtain⟨sp,hsp⟩: ∃z,z=aB[i].f2:=⟨_,rfl⟩
       rw[← hsp]at h2
       have HS:=Aside0.mk hs
       have p1:(0≤ii)=True:=eq_true (by have:=HI.out;omega)
       have p2:(ii<(nb:Int))=True:=eq_true (by have:=HI.out;omega)
       have C3:=Aside0.mk (And.intro c3 hil)
       clear c3 hil ha hb hs hsp
       go_upto_region 22 with (fail)
       obtain⟨gK,hgK⟩: ∃z,z=wr.heap.size:=⟨_,rfl⟩
       obtain⟨w1,aE⟩: ∃z,z=wr.alloc (.cells #[.int .i64 a,.int .i64 b,.bool sp] 104 (0,0)):=⟨_,rfl⟩
       rw[← hgK,← aE]
       have H1:=Aside0.mk (show w1.heap[gK]? =some (.cells #[.int .i64 a,.int .i64 b,.bool sp] 104 (0,0))∧Below w.heap.size w w1 from⟨by rw[aE,hgK];exact alloc_at _ _,by rw[aE];exact below_alloc HB.out _⟩)
       clear hgK aE HB q0 q1 h0 h1 h2
       have k0:=(blk_cell H1.out.1 0).trans rfl
       have k1:=(blk_cell H1.out.1 1).trans rfl
       have q0:=(blk_cell (blk_below HR.out.1 H1.out.2) 0).trans rfl
       by_cases ca:0≤a∧a≤(n:Int) - 1
       ·have hwa:wrap64 (a+1)=a+1:=wrap_id _ (by omega) (by have:=C8.out;omega)
        by_cases cb:a+1≤b∧b≤(n:Int) - 1
        ·have CX:=Aside0.mk (And.intro (in_y ca) (in_y cb))
         have hdd:decide (0≤a∧a<b∧b<(n:Int))=true:=decide_eq_true (by omega)
         obtain⟨ae,hae,_,_,e2⟩:=at_T90 (Kd.C_below HR.out.2.1 H1.out.2) a ca.1 (by have:=HN.out;omega)
         obtain⟨ae',hae',_,_,e3⟩:=at_T90 (Kd.C_below HR.out.2.1 H1.out.2) b (by omega) (by have:=HN.out;omega)
         subst hae
         injection hae' with hae'
         subst hae'
         obtain⟨fa,hfa⟩: ∃z,z=fixK aA a:=⟨_,rfl⟩
         obtain⟨fb,hfb⟩: ∃z,z=fixK aA b:=⟨_,rfl⟩
         rw[show(rd_T90 aA a).f2=fa from by rw[hfa];rfl]at e2
         rw[show(rd_T90 aA b).f2=fb from by rw[hfb];rfl]at e3
         have p3:(0≤a)=True:=eq_true ca.1
         have p4:(a<(n:Int))=True:=eq_true (by omega)
         have p5:(0≤b)=True:=eq_true (by omega)
         have p6:(b<(n:Int))=True:=eq_true (by omega)
         have HXY:=Aside0.mk (show r=((!(fa && fb) && !anyB (aB.take i) a b && okBs aA (aB.take (i+1)) (aB.drop (i+1))) && R1)from by rw[HZ.out,HS.out,hdd,hfa,hfb];simp)
         clear ca cb hdd hfa hfb HZ
         cases fa with
         |true=>
          cases fb with
          |true=>
           obtain rfl:r=false:=by rw[HXY.out];rfl
           go_quiet (first|(go_at_call 82;refine(spec_l00In.calls _ _ _ true _ ?hI).mono ?_;(case hI=>first|exact CX.out.1|(simp only[i64_w,hwn];exact CX.out.1)|(simp only[i64_w,hwn,hwa];exact CX.out.1));rintro e w' ⟨rfl,⟨nd,rfl⟩⟩;(first|exact⟨rfl,_,World.drewN_drewN _ _ _⟩|exact⟨rfl,_,Eq.trans (World.drewN_drewN _ _ _) (congrArg (World.drewN _) (Nat.add_assoc _ _ _))⟩))|(go_at_call 82;refine(spec_l00In.calls _ _ _ true _ ?hI).mono ?_;(case hI=>first|exact CX.out.2|(simp only[i64_w,hwn];exact CX.out.2)|(simp only[i64_w,hwn,hwa];exact CX.out.2));rintro e w' ⟨rfl,⟨nd,rfl⟩⟩;(first|exact⟨rfl,_,World.drewN_drewN _ _ _⟩|exact⟨rfl,_,Eq.trans (World.drewN_drewN _ _ _) (congrArg (World.drewN _) (Nat.add_assoc _ _ _))⟩)))
           go_wp2_with (fail)
           go_ret
           exact⟨rfl,pw_below_drewN H1.out.2 _⟩
          |false=>
           have HXZ:=Aside0.mk (show r=((!anyB ((aB.take i).drop 0) a b && okBs aA (aB.take (i+1)) (aB.drop (i+1))) && R1)from by rw[HXY.out];simp)
           go_quiet (first|(go_at_call 82;refine(spec_l00In.calls _ _ _ true _ ?hI).mono ?_;(case hI=>first|exact CX.out.1|(simp only[i64_w,hwn];exact CX.out.1)|(simp only[i64_w,hwn,hwa];exact CX.out.1));rintro e w' ⟨rfl,⟨nd,rfl⟩⟩;(first|exact⟨rfl,_,World.drewN_drewN _ _ _⟩|exact⟨rfl,_,Eq.trans (World.drewN_drewN _ _ _) (congrArg (World.drewN _) (Nat.add_assoc _ _ _))⟩))|(go_at_call 82;refine(spec_l00In.calls _ _ _ true _ ?hI).mono ?_;(case hI=>first|exact CX.out.2|(simp only[i64_w,hwn];exact CX.out.2)|(simp only[i64_w,hwn,hwa];exact CX.out.2));rintro e w' ⟨rfl,⟨nd,rfl⟩⟩;(first|exact⟨rfl,_,World.drewN_drewN _ _ _⟩|exact⟨rfl,_,Eq.trans (World.drewN_drewN _ _ _) (congrArg (World.drewN _) (Nat.add_assoc _ _ _))⟩)))
           go_wp2_with (fail)
           go_loopg [10] (i+1) (fun kq aS w'=>∃(j:Nat) (jj:Int),aS= .int .i64 jj∧Aside0 (jj=(j:Int)∧j+kq=i+1∧1≤kq)∧Aside0 (Below w.heap.size w w'∧w'.heap[gK]? =some (.cells #[.int .i64 a,.int .i64 b,.bool sp] 104 (0,0)))∧Aside0 (r=((!anyB ((aB.take i).drop j) a b && okBs aA (aB.take (i+1)) (aB.drop (i+1))) && R1)))
           case atStart=>exact⟨0,0,rfl,⟨rfl,by omega,by omega⟩,⟨pw_below_drewN H1.out.2 _,H1.out.1⟩,HXZ⟩
           case round=>
            obtain⟨j,jj,rfl,HJ,HB,HY⟩:=hrel
            obtain⟨gs,rfl⟩: ∃k,gk=k+1:=⟨gk - 1,by have:=HJ.out;omega⟩
            clear k0 k1 q0 e2 e3
            have k0:=(blk_cell HB.out.2 0).trans rfl
            have k1:=(blk_cell HB.out.2 1).trans rfl
            have q1:=(blk_cell (blk_below HR.out.1 HB.out.1) 1).trans rfl
            by_cases c5:j<i
            ·have d6:decide (jj<ii)=true:=decide_eq_true (by have:=HJ.out;have:=HI.out;omega)
             have hjl:j<aB.length:=by have:=C3.out;omega
             obtain⟨aX,aC,e0,e1,_⟩:=at_T104 (Kd.C_below HR.out.2.2 HB.out.1) jj (by have:=HJ.out;omega) (by have:=HJ.out;omega)
             injection aC with aC
             subst aC
             rw[show rd_T104 aB jj=aB[j]from by rw[HJ.out.1,rdB_ hjl]]at e0 e1
             obtain⟨xj,hxj⟩: ∃z,z=aB[j].f0:=⟨_,rfl⟩
             obtain⟨yj,hyj⟩: ∃z,z=aB[j].f1:=⟨_,rfl⟩
             have hst:=anyB_drop (l:=aB.take i) (i:=j) (by simp;omega) a b
             rw[List.getElem_take,← hxj,← hyj]at hst
             rw[← hxj]at e0
             rw[← hyj]at e1
             have p7:(0≤jj)=True:=eq_true (by have:=HJ.out;omega)
             have p8:(jj<(nb:Int))=True:=eq_true (by have:=HJ.out;have:=C3.out;omega)
             have HST:=Aside0.mk hst
             have C5:=Aside0.mk c5
             clear hxj hyj hst hjl c5
             by_cases g1:xj=a
             ·have b1:(xj == a)=true:=beq_iff_eq.mpr g1
              by_cases g2:yj=b
              ·have b2:(yj == b)=true:=beq_iff_eq.mpr g2
               obtain rfl:r=false:=by rw[HY.out,HST.out,b1,b2];rfl
               clear g1 g2
               go_wp2_with (fail)
               (try(go_quiet (fail);go_wp2_with (fail)))
               go_ret
               exact⟨rfl,pw_below_drewN HB.out.1 _⟩
              ·have b2:(yj == b)=false:=beq_eq_false_iff_ne.mpr g2
               have aD:=Aside0.mk (show r=((!anyB ((aB.take i).drop (j+1)) a b && okBs aA (aB.take (i+1)) (aB.drop (i+1))) && R1)from by rw[HY.out,HST.out,b2];simp)
               clear g1 g2
               go_wp2_with (fail)
               (try(go_quiet (fail);go_wp2_with (fail)))
               go_roundg gs
               case measure=>omega
               case rel=>
                have h1:=HJ.out;have h2:=C8.out;have h3:=C3.out;have h5:=C5.out
                have hw:=wrap_id (jj+1) (by omega) (by omega)
                exact⟨j+1,jj+1,by rw[hw],⟨by omega,by omega,by omega⟩,⟨pw_below_drewN HB.out.1 _,HB.out.2⟩,aD⟩
             ·have b1:(xj == a)=false:=beq_eq_false_iff_ne.mpr g1
              have aD:=Aside0.mk (show r=((!anyB ((aB.take i).drop (j+1)) a b && okBs aA (aB.take (i+1)) (aB.drop (i+1))) && R1)from by rw[HY.out,HST.out,b1];simp)
              clear g1
              go_wp2_with (fail)
              (try(go_quiet (fail);go_wp2_with (fail)))
              go_roundg gs
              case measure=>omega
              case rel=>
               have h1:=HJ.out;have h2:=C8.out;have h3:=C3.out;have h5:=C5.out
               have hw:=wrap_id (jj+1) (by omega) (by omega)
               exact⟨j+1,jj+1,by rw[hw],⟨by omega,by omega,by omega⟩,⟨pw_below_drewN HB.out.1 _,HB.out.2⟩,aD⟩
            ·have C5:=Aside0.mk (show j=i from by have:=HJ.out;omega)
             have d6:decide (jj<ii)=false:=decide_eq_false (by have:=HJ.out;have:=HI.out;have:=C5.out;omega)
             clear c5
             go_wp2_with (fail)
             go_roundg gr
             case measure=>omega
             case rel=>
              have h1:=HI.out;have h2:=C8.out;have h3:=C3.out
              have hw:=wrap_id (ii+1) (by omega) (by omega)
              refine⟨i+1,ii+1,by rw[hw],⟨by omega,by omega,by omega⟩,⟨HB.out.1⟩,⟨?_⟩⟩
              rw[HY.out,C5.out,show(aB.take i).drop i= [] by simp]
              simp[anyB]
         |false=>
          have HXZ:=Aside0.mk (show r=((!anyB ((aB.take i).drop 0) a b && okBs aA (aB.take (i+1)) (aB.drop (i+1))) && R1)from by rw[HXY.out];simp)
          go_quiet (first|(go_at_call 82;refine(spec_l00In.calls _ _ _ true _ ?hI).mono ?_;(case hI=>first|exact CX.out.1|(simp only[i64_w,hwn];exact CX.out.1)|(simp only[i64_w,hwn,hwa];exact CX.out.1));rintro e w' ⟨rfl,⟨nd,rfl⟩⟩;(first|exact⟨rfl,_,World.drewN_drewN _ _ _⟩|exact⟨rfl,_,Eq.trans (World.drewN_drewN _ _ _) (congrArg (World.drewN _) (Nat.add_assoc _ _ _))⟩))|(go_at_call 82;refine(spec_l00In.calls _ _ _ true _ ?hI).mono ?_;(case hI=>first|exact CX.out.2|(simp only[i64_w,hwn];exact CX.out.2)|(simp only[i64_w,hwn,hwa];exact CX.out.2));rintro e w' ⟨rfl,⟨nd,rfl⟩⟩;(first|exact⟨rfl,_,World.drewN_drewN _ _ _⟩|exact⟨rfl,_,Eq.trans (World.drewN_drewN _ _ _) (congrArg (World.drewN _) (Nat.add_assoc _ _ _))⟩)))
          go_wp2_with (fail)
          go_loopg [10] (i+1) (fun kq aS w'=>∃(j:Nat) (jj:Int),aS= .int .i64 jj∧Aside0 (jj=(j:Int)∧j+kq=i+1∧1≤kq)∧Aside0 (Below w.heap.size w w'∧w'.heap[gK]? =some (.cells #[.int .i64 a,.int .i64 b,.bool sp] 104 (0,0)))∧Aside0 (r=((!anyB ((aB.take i).drop j) a b && okBs aA (aB.take (i+1)) (aB.drop (i+1))) && R1)))
          case atStart=>exact⟨0,0,rfl,⟨rfl,by omega,by omega⟩,⟨pw_below_drewN H1.out.2 _,H1.out.1⟩,HXZ⟩
          case round=>
           obtain⟨j,jj,rfl,HJ,HB,HY⟩:=hrel
           obtain⟨gs,rfl⟩: ∃k,gk=k+1:=⟨gk - 1,by have:=HJ.out;omega⟩
           clear k0 k1 q0 e2 e3
           have k0:=(blk_cell HB.out.2 0).trans rfl
           have k1:=(blk_cell HB.out.2 1).trans rfl
           have q1:=(blk_cell (blk_below HR.out.1 HB.out.1) 1).trans rfl
           by_cases c5:j<i
           ·have d6:decide (jj<ii)=true:=decide_eq_true (by have:=HJ.out;have:=HI.out;omega)
            have hjl:j<aB.length:=by have:=C3.out;omega
            obtain⟨aX,aC,e0,e1,_⟩:=at_T104 (Kd.C_below HR.out.2.2 HB.out.1) jj (by have:=HJ.out;omega) (by have:=HJ.out;omega)
            injection aC with aC
            subst aC
            rw[show rd_T104 aB jj=aB[j]from by rw[HJ.out.1,rdB_ hjl]]at e0 e1
            obtain⟨xj,hxj⟩: ∃z,z=aB[j].f0:=⟨_,rfl⟩
            obtain⟨yj,hyj⟩: ∃z,z=aB[j].f1:=⟨_,rfl⟩
            have hst:=anyB_drop (l:=aB.take i) (i:=j) (by simp;omega) a b
            rw[List.getElem_take,← hxj,← hyj]at hst
            rw[← hxj]at e0
            rw[← hyj]at e1
            have p7:(0≤jj)=True:=eq_true (by have:=HJ.out;omega)
            have p8:(jj<(nb:Int))=True:=eq_true (by have:=HJ.out;have:=C3.out;omega)
            have HST:=Aside0.mk hst
            have C5:=Aside0.mk c5
            clear hxj hyj hst hjl c5
            by_cases g1:xj=a
            ·have b1:(xj == a)=true:=beq_iff_eq.mpr g1
             by_cases g2:yj=b
             ·have b2:(yj == b)=true:=beq_iff_eq.mpr g2
              obtain rfl:r=false:=by rw[HY.out,HST.out,b1,b2];rfl
              clear g1 g2
              go_wp2_with (fail)
              (try(go_quiet (fail);go_wp2_with (fail)))
              go_ret
              exact⟨rfl,pw_below_drewN HB.out.1 _⟩
             ·have b2:(yj == b)=false:=beq_eq_false_iff_ne.mpr g2
              have aD:=Aside0.mk (show r=((!anyB ((aB.take i).drop (j+1)) a b && okBs aA (aB.take (i+1)) (aB.drop (i+1))) && R1)from by rw[HY.out,HST.out,b2];simp)
              clear g1 g2
              go_wp2_with (fail)
              (try(go_quiet (fail);go_wp2_with (fail)))
              go_roundg gs
              case measure=>omega
              case rel=>
               have h1:=HJ.out;have h2:=C8.out;have h3:=C3.out;have h5:=C5.out
               have hw:=wrap_id (jj+1) (by omega) (by omega)
               exact⟨j+1,jj+1,by rw[hw],⟨by omega,by omega,by omega⟩,⟨pw_below_drewN HB.out.1 _,HB.out.2⟩,aD⟩
            ·have b1:(xj == a)=false:=beq_eq_false_iff_ne.mpr g1
             have aD:=Aside0.mk (show r=((!anyB ((aB.take i).drop (j+1)) a b && okBs aA (aB.take (i+1)) (aB.drop (i+1))) && R1)from by rw[HY.out,HST.out,b1];simp)
             clear g1
             go_wp2_with (fail)
             (try(go_quiet (fail);go_wp2_with (fail)))
             go_roundg gs
             case measure=>omega
             case rel=>
              have h1:=HJ.out;have h2:=C8.out;have h3:=C3.out;have h5:=C5.out
              have hw:=wrap_id (jj+1) (by omega) (by omega)
              exact⟨j+1,jj+1,by rw[hw],⟨by omega,by omega,by omega⟩,⟨pw_below_drewN HB.out.1 _,HB.out.2⟩,aD⟩
           ·have C5:=Aside0.mk (show j=i from by have:=HJ.out;omega)
            have d6:decide (jj<ii)=false:=decide_eq_false (by have:=HJ.out;have:=HI.out;have:=C5.out;omega)
            clear c5
            go_wp2_with (fail)
            go_roundg gr
            case measure=>omega
            case rel=>
             have h1:=HI.out;have h2:=C8.out;have h3:=C3.out
             have hw:=wrap_id (ii+1) (by omega) (by omega)
             refine⟨i+1,ii+1,by rw[hw],⟨by omega,by omega,by omega⟩,⟨HB.out.1⟩,⟨?_⟩⟩
             rw[HY.out,C5.out,show(aB.take i).drop i= [] by simp]
             simp[anyB]
        ·have CX:=Aside0.mk (And.intro (in_y ca) (in_n cb))
         obtain rfl:r=false:=by rw[HZ.out,HS.out,decide_eq_false (show¬(0≤a∧a<b∧b<(n:Int)) by omega)];simp
         clear ca cb
         go_quiet (first|(go_at_call 82;refine(spec_l00In.calls _ _ _ true _ ?hI).mono ?_;(case hI=>first|exact CX.out.1|(simp only[i64_w,hwn];exact CX.out.1)|(simp only[i64_w,hwn,hwa];exact CX.out.1));rintro e w' ⟨rfl,⟨nd,rfl⟩⟩;(first|exact⟨rfl,_,World.drewN_drewN _ _ _⟩|exact⟨rfl,_,Eq.trans (World.drewN_drewN _ _ _) (congrArg (World.drewN _) (Nat.add_assoc _ _ _))⟩))|(go_at_call 82;refine(spec_l00In.calls _ _ _ false _ ?hI).mono ?_;(case hI=>first|exact CX.out.2|(simp only[i64_w,hwn];exact CX.out.2)|(simp only[i64_w,hwn,hwa];exact CX.out.2));rintro e w' ⟨rfl,⟨nd,rfl⟩⟩;(first|exact⟨rfl,_,World.drewN_drewN _ _ _⟩|exact⟨rfl,_,Eq.trans (World.drewN_drewN _ _ _) (congrArg (World.drewN _) (Nat.add_assoc _ _ _))⟩)))
         go_wp2_with (fail)
         go_ret
         exact⟨rfl,pw_below_drewN H1.out.2 _⟩
       ·have CX:=Aside0.mk (in_n ca)
        obtain rfl:r=false:=by rw[HZ.out,HS.out,decide_eq_false (show¬(0≤a∧a<b∧b<(n:Int)) by omega)];simp
        clear ca
        go_quiet (first|(go_at_call 82;refine(spec_l00In.calls _ _ _ false _ ?hI).mono ?_;(case hI=>first|exact CX.out|(simp only[i64_w,hwn];exact CX.out)|(simp only[i64_w,hwn,hwa];exact CX.out));rintro e w' ⟨rfl,⟨nd,rfl⟩⟩;(first|exact⟨rfl,_,World.drewN_drewN _ _ _⟩|exact⟨rfl,_,Eq.trans (World.drewN_drewN _ _ _) (congrArg (World.drewN _) (Nat.add_assoc _ _ _))⟩)))
        go_wp2_with (fail)
        go_ret
        exact⟨rfl,pw_below_drewN H1.out.2 _⟩
      ·have C3:=Aside0.mk (show i=nb from by have:=HI.out;omega)
       have d5:decide (ii<(nb:Int))=false:=decide_eq_false (by have:=HI.out;have:=C3.out;omega)
       clear c3
       have HE:=Aside0.mk (show r=decide (f≤3)from by
        rw[HZ.out,C3.out,HN.out.2,List.drop_length,HRr.out.2.2,aT.out.2]
        show(true && decide (freeC aA≤3))=decide ((freeC aA:Int)≤3)
        rw[Bool.true_and]
        exact decide_eq_decide.mpr (by omega))
       go_wp2_with (fail)
       go_ret
       exact⟨by rw[HE.out];rfl,HB.out⟩
  ·have d2:decide ((nb:Int) > 8)=true:=decide_eq_true (by omega)
   obtain rfl:r=false:=by rw[HRr.out.1,decide_eq_false c2];simp
   go_wp2_with (fail)
   go_ret
   exact⟨rfl,Below.refl _ _⟩
 ·have d1:decide ((n:Int) > 8)=true:=decide_eq_true (by omega)
  obtain rfl:r=false:=by rw[HRr.out.1,decide_eq_false c1];simp
  go_wp2_with (fail)
  go_ret
  exact⟨rfl,Below.refl _ _⟩
end
/-! ### spec_l00Rises: function 97 -/
def spec_l00Rises.l0:Nat→List Int→Int→Int→Int→Option (Bool)
 |0,_,_,_,_=>none
 |k+1,x0,x1,x2,x7=>if x7<(x0.length:Int)then(if 0≤x7 then((spec_l00In.f (rd x0 x7) x1 x2).bind fun aA=>(if aA=true then(if x7 > 0 then(if 0≤(wrap64 (x7 - 1))then(if(wrap64 (x7 - 1))<(x0.length:Int)then(if(rd x0 (wrap64 (x7 - 1)))≥(rd x0 x7)then(some false)else(spec_l00Rises.l0 k x0 x1 x2 (wrap64 (x7+1))))else(none))else(none))else(spec_l00Rises.l0 k x0 x1 x2 (wrap64 (x7+1))))else(some false)))else(none))else(some true)
def spec_l00Rises.f (k:Nat) (l0:List Int) (a1:Int) (a2:Int):Option (Bool):=spec_l00Rises.l0 k l0 a1 a2 0
theorem spec_l00Rises.mono_l: ∀k,(∀y0 y1 y2 y3,LeO (spec_l00Rises.l0 k y0 y1 y2 y3) (spec_l00Rises.l0 (k+1) y0 y1 y2 y3))
 |0=>fun _ _ _ _ r h=>by simp[spec_l00Rises.l0]at h
 |k+1=>by
  have aA:=spec_l00Rises.mono_l k
  ·intro y0 y1 y2 y3
   unfold spec_l00Rises.l0
   repeat' first
   |(with_reducible exact aA _ _ _ _)
   |(with_reducible exact LeO.refl _)
   |(with_reducible exact LeO.none _)
   |(with_reducible refine LeO.ite ?_ ?_)
   |(with_reducible refine LeO.bind ?_ (fun _=>?_))
   |exact LeO.none _
   |refine LeO.ite ?_ ?_
   |refine LeO.bind ?_ (fun _=>?_)
theorem spec_l00Rises.mono: ∀a0 a1 a2 k,LeO (spec_l00Rises.f k a0 a1 a2) (spec_l00Rises.f (k+1) a0 a1 a2):=by
 intro a0 a1 a2 k
 have aA:=spec_l00Rises.mono_l k
 unfold spec_l00Rises.f
 repeat' first
  |(with_reducible exact aA _ _ _ _)
  |(with_reducible exact LeO.refl _)
  |(with_reducible exact LeO.none _)
  |(with_reducible refine LeO.ite ?_ ?_)
  |(with_reducible refine LeO.bind ?_ (fun _=>?_))
  |exact LeO.none _
  |refine LeO.ite ?_ ?_
  |refine LeO.bind ?_ (fun _=>?_)
set_option maxHeartbeats 8000000 in
set_option maxRecDepth 100000 in
theorem spec_l00Rises.calls (k:Nat) (A0:Option Addr) (c0:Nat) (l0:List Int) (a1:Int) (a2:Int) (r:Bool) (w:World) (aV:Kd.C (Kd.int .i64) w A0 l0.length l0) (aW:l0.length≤c0) (h:spec_l00Rises.f k l0 a1 a2=some r):
 Calls Try.prog 97 #[.slice A0 l0.length c0,.int .i64 a1,.int .i64 a2] w fun e w'=>e= .returned (.bool r)∧Drawn0 w w':=by
 have aQ:=A' aV;have aY:=A' aW;clear aV aW;have H:(spec_l00Rises.l0 k l0 a1 a2 0)=some r:=h;clear h;have H':=A' H;clear H;go_enter Try.func97,Try.ntmps97;go_wp2
 repeat(go_quiet (fail);try go_wp2)
 go_loopg [7] k (fun kq v7 w'=>∃(aA:Int),v7= .int .i64 aA∧Aside0 (spec_l00Rises.l0 kq l0 a1 a2 aA=some r)∧Aside0 (kq≤k)∧Drawn0 w w')
 case atStart=>exact⟨(0),qS,H',⟨Nat.le_refl _⟩,by repeat(first|exact Drawn0.refl _|apply Drawn0.step)⟩
 case round=>
  clear H';try clear p2
  obtain⟨aA,rfl,HA,aU,⟨m1,rfl⟩⟩:=hrel
  cases gk with
  |zero=>exact absurd HA.out (by simp[spec_l00Rises.l0])
  |succ k1=>
   have H:=HA.out;clear HA;simp only[spec_l00Rises.l0]at H
   by_cases c4:aA<(l0.length:Int)
   ·rw[if_pos c4]at H;have c4b0:decide (aA<(l0.length:Int))=true:=dT' c4;clear c4
    by_cases c5:0≤aA
    ·rw[if_pos c5]at H;have c5b0:decide (0≤aA)=true:=dT' c5;clear c5;replace H:=Option.bind_eq_some_iff.mp H;obtain⟨aT,aX,H⟩:=H;replace H:(if aT=true then(if aA > 0 then(if 0≤(wrap64 (aA - 1))then(if(wrap64 (aA - 1))<(l0.length:Int)then(if(rd l0 (wrap64 (aA - 1)))≥(rd l0 aA)then(some false)else(spec_l00Rises.l0 k1 l0 a1 a2 (wrap64 (aA+1))))else(none))else(none))else(spec_l00Rises.l0 k1 l0 a1 a2 (wrap64 (aA+1))))else(some false))=some r:=H;have A6:=A' aX;clear aX
     by_cases c7:aT=true
     ·subst c7;have H1:(if aA > 0 then(if 0≤(wrap64 (aA - 1))then(if(wrap64 (aA - 1))<(l0.length:Int)then(if(rd l0 (wrap64 (aA - 1)))≥(rd l0 aA)then(some false)else(spec_l00Rises.l0 k1 l0 a1 a2 (wrap64 (aA+1))))else(none))else(none))else(spec_l00Rises.l0 k1 l0 a1 a2 (wrap64 (aA+1))))=some r:=by rw[if_pos rfl]at H;exact H
      clear H;have H:=H1;clear H1
      by_cases c8:aA > 0
      ·rw[if_pos c8]at H;have c8b0:decide (0<aA)=true:=dT' c8;clear c8;obtain⟨aL,aS⟩: ∃j_:Int,(wrap64 (aA - 1))=j_:=⟨_,rfl⟩
       replace H:(if 0≤(aL)then(if(aL)<(l0.length:Int)then(if(rd l0 (aL))≥(rd l0 aA)then(some false)else(spec_l00Rises.l0 k1 l0 a1 a2 (wrap64 (aA+1))))else(none))else(none))=some r:=by first|(rw[aS]at H;exact H)|(simp only[aS]at H ⊢;exact H)
       (try rw[aS]at A6);have hji9w:(IntKind.i64.wrap (aA - 1))=aL:=(i64_w _).trans aS
       by_cases c10:0≤(aL)
       ·rw[if_pos c10]at H;have c10b0:decide (0≤(aL))=true:=dT' c10;clear c10
        by_cases c11:(aL)<(l0.length:Int)
        ·rw[if_pos c11]at H;have c11b0:decide ((aL)<(l0.length:Int))=true:=dT' c11;clear c11
         by_cases c12:(rd l0 (aL))≥(rd l0 aA)
         ·rw[if_pos c12]at H;have c12b0:decide ((rd l0 aA)≤(rd l0 (aL)))=true:=dT' c12;clear c12;obtain rfl:=Option.some.inj H;have aJ:0≤(aA:Int):=oD' qA;have aI:aA<(l0.length:Int):=oD' qA;obtain⟨aE,aR,aP⟩:=Kd.at_int aQ.out aA aJ aI
          cases aR
          replace aJ:=eq_true aJ;replace aI:=eq_true aI;go_wp2_with (first|(go_at_call 82;(with_reducible refine(spec_l00In.calls (rd l0 aA) a1 a2 true _ A6.out).mono ?_);rintro e w' ⟨rfl,⟨nd,rfl⟩⟩;(try first|exact⟨rfl,_,World.drewN_drewN _ _ _⟩|exact⟨rfl,_,Eq.trans (World.drewN_drewN _ _ _) (congrArg (World.drewN _) (Nat.add_assoc _ _ _))⟩);have aF:0≤((aL):Int):=oD' qA;have aC:(aL)<(l0.length:Int):=oD' qA;obtain⟨aH,aO,aK⟩:=Kd.at_int aQ.out (aL) aF aC;obtain rfl:aE=aH:=(by injection aO);replace aF:=eq_true aF;replace aC:=eq_true aC;have aD:0≤(aA:Int):=oD' qA;have aB:aA<(l0.length:Int):=oD' qA;obtain⟨aG,aN,aM⟩:=Kd.at_int aQ.out aA aD aB;obtain rfl:aE=aG:=(by injection aN);replace aD:=eq_true aD;replace aB:=eq_true aB))
          repeat(go_quiet (first|(go_at_call 82;(with_reducible refine(spec_l00In.calls (rd l0 aA) a1 a2 true _ A6.out).mono ?_);rintro e w' ⟨rfl,⟨nd,rfl⟩⟩;(try first|exact⟨rfl,_,World.drewN_drewN _ _ _⟩|exact⟨rfl,_,Eq.trans (World.drewN_drewN _ _ _) (congrArg (World.drewN _) (Nat.add_assoc _ _ _))⟩);have aF:0≤((aL):Int):=oD' qA;have aC:(aL)<(l0.length:Int):=oD' qA;obtain⟨aH,aO,aK⟩:=Kd.at_int aQ.out (aL) aF aC;obtain rfl:aE=aH:=(by injection aO);replace aF:=eq_true aF;replace aC:=eq_true aC;have aD:0≤(aA:Int):=oD' qA;have aB:aA<(l0.length:Int):=oD' qA;obtain⟨aG,aN,aM⟩:=Kd.at_int aQ.out aA aD aB;obtain rfl:aE=aG:=(by injection aN);replace aD:=eq_true aD;replace aB:=eq_true aB));try go_wp2_with (first|(go_at_call 82;(with_reducible refine(spec_l00In.calls (rd l0 aA) a1 a2 true _ A6.out).mono ?_);rintro e w' ⟨rfl,⟨nd,rfl⟩⟩;(try first|exact⟨rfl,_,World.drewN_drewN _ _ _⟩|exact⟨rfl,_,Eq.trans (World.drewN_drewN _ _ _) (congrArg (World.drewN _) (Nat.add_assoc _ _ _))⟩);have aF:0≤((aL):Int):=oD' qA;have aC:(aL)<(l0.length:Int):=oD' qA;obtain⟨aH,aO,aK⟩:=Kd.at_int aQ.out (aL) aF aC;obtain rfl:aE=aH:=(by injection aO);replace aF:=eq_true aF;replace aC:=eq_true aC;have aD:0≤(aA:Int):=oD' qA;have aB:aA<(l0.length:Int):=oD' qA;obtain⟨aG,aN,aM⟩:=Kd.at_int aQ.out aA aD aB;obtain rfl:aE=aG:=(by injection aN);replace aD:=eq_true aD;replace aB:=eq_true aB)))
          go_ret;exact⟨by first|rfl|(simp;done)|(simp only[← aS] <;> (first|rfl|simp))|(simp[*];done),by repeat(first|exact Drawn0.refl _|apply Drawn0.step)⟩
         ·rw[if_neg c12]at H;have c12b0:decide ((rd l0 aA)≤(rd l0 (aL)))=false:=dF' c12;clear c12;have H':=A' H;clear H;have aJ:0≤(aA:Int):=oD' qA;have aI:aA<(l0.length:Int):=oD' qA;obtain⟨aE,aR,aP⟩:=Kd.at_int aQ.out aA aJ aI
          cases aR
          replace aJ:=eq_true aJ;replace aI:=eq_true aI;go_wp2_with (first|(go_at_call 82;(with_reducible refine(spec_l00In.calls (rd l0 aA) a1 a2 true _ A6.out).mono ?_);rintro e w' ⟨rfl,⟨nd,rfl⟩⟩;(try first|exact⟨rfl,_,World.drewN_drewN _ _ _⟩|exact⟨rfl,_,Eq.trans (World.drewN_drewN _ _ _) (congrArg (World.drewN _) (Nat.add_assoc _ _ _))⟩);have aF:0≤((aL):Int):=oD' qA;have aC:(aL)<(l0.length:Int):=oD' qA;obtain⟨aH,aO,aK⟩:=Kd.at_int aQ.out (aL) aF aC;obtain rfl:aE=aH:=(by injection aO);replace aF:=eq_true aF;replace aC:=eq_true aC;have aD:0≤(aA:Int):=oD' qA;have aB:aA<(l0.length:Int):=oD' qA;obtain⟨aG,aN,aM⟩:=Kd.at_int aQ.out aA aD aB;obtain rfl:aE=aG:=(by injection aN);replace aD:=eq_true aD;replace aB:=eq_true aB))
          repeat(go_quiet (first|(go_at_call 82;(with_reducible refine(spec_l00In.calls (rd l0 aA) a1 a2 true _ A6.out).mono ?_);rintro e w' ⟨rfl,⟨nd,rfl⟩⟩;(try first|exact⟨rfl,_,World.drewN_drewN _ _ _⟩|exact⟨rfl,_,Eq.trans (World.drewN_drewN _ _ _) (congrArg (World.drewN _) (Nat.add_assoc _ _ _))⟩);have aF:0≤((aL):Int):=oD' qA;have aC:(aL)<(l0.length:Int):=oD' qA;obtain⟨aH,aO,aK⟩:=Kd.at_int aQ.out (aL) aF aC;obtain rfl:aE=aH:=(by injection aO);replace aF:=eq_true aF;replace aC:=eq_true aC;have aD:0≤(aA:Int):=oD' qA;have aB:aA<(l0.length:Int):=oD' qA;obtain⟨aG,aN,aM⟩:=Kd.at_int aQ.out aA aD aB;obtain rfl:aE=aG:=(by injection aN);replace aD:=eq_true aD;replace aB:=eq_true aB));try go_wp2_with (first|(go_at_call 82;(with_reducible refine(spec_l00In.calls (rd l0 aA) a1 a2 true _ A6.out).mono ?_);rintro e w' ⟨rfl,⟨nd,rfl⟩⟩;(try first|exact⟨rfl,_,World.drewN_drewN _ _ _⟩|exact⟨rfl,_,Eq.trans (World.drewN_drewN _ _ _) (congrArg (World.drewN _) (Nat.add_assoc _ _ _))⟩);have aF:0≤((aL):Int):=oD' qA;have aC:(aL)<(l0.length:Int):=oD' qA;obtain⟨aH,aO,aK⟩:=Kd.at_int aQ.out (aL) aF aC;obtain rfl:aE=aH:=(by injection aO);replace aF:=eq_true aF;replace aC:=eq_true aC;have aD:0≤(aA:Int):=oD' qA;have aB:aA<(l0.length:Int):=oD' qA;obtain⟨aG,aN,aM⟩:=Kd.at_int aQ.out aA aD aB;obtain rfl:aE=aG:=(by injection aN);replace aD:=eq_true aD;replace aB:=eq_true aB)))
          go_roundg k1
          case measure=>have:=aU.out;omega
          case rel=>exact⟨(wrap64 (aA+1)),qS,H',⟨by have:=aU.out;omega⟩,by repeat(first|exact Drawn0.refl _|apply Drawn0.step)⟩
        ·rw[if_neg c11]at H;exact absurd H (by simp)
       ·rw[if_neg c10]at H;exact absurd H (by simp)
      ·rw[if_neg c8]at H;have c8b0:decide (0<aA)=false:=dF' c8;clear c8;have H':=A' H;clear H;have aJ:0≤(aA:Int):=oD' qA;have aI:aA<(l0.length:Int):=oD' qA;obtain⟨aE,aR,aP⟩:=Kd.at_int aQ.out aA aJ aI
       cases aR
       replace aJ:=eq_true aJ;replace aI:=eq_true aI;go_wp2_with (first|(go_at_call 82;(with_reducible refine(spec_l00In.calls (rd l0 aA) a1 a2 true _ A6.out).mono ?_);rintro e w' ⟨rfl,⟨nd,rfl⟩⟩;(try first|exact⟨rfl,_,World.drewN_drewN _ _ _⟩|exact⟨rfl,_,Eq.trans (World.drewN_drewN _ _ _) (congrArg (World.drewN _) (Nat.add_assoc _ _ _))⟩)))
       repeat(go_quiet (first|(go_at_call 82;(with_reducible refine(spec_l00In.calls (rd l0 aA) a1 a2 true _ A6.out).mono ?_);rintro e w' ⟨rfl,⟨nd,rfl⟩⟩;(try first|exact⟨rfl,_,World.drewN_drewN _ _ _⟩|exact⟨rfl,_,Eq.trans (World.drewN_drewN _ _ _) (congrArg (World.drewN _) (Nat.add_assoc _ _ _))⟩)));try go_wp2_with (first|(go_at_call 82;(with_reducible refine(spec_l00In.calls (rd l0 aA) a1 a2 true _ A6.out).mono ?_);rintro e w' ⟨rfl,⟨nd,rfl⟩⟩;(try first|exact⟨rfl,_,World.drewN_drewN _ _ _⟩|exact⟨rfl,_,Eq.trans (World.drewN_drewN _ _ _) (congrArg (World.drewN _) (Nat.add_assoc _ _ _))⟩))))
       go_roundg k1
       case measure=>have:=aU.out;omega
       case rel=>exact⟨(wrap64 (aA+1)),qS,H',⟨by have:=aU.out;omega⟩,by repeat(first|exact Drawn0.refl _|apply Drawn0.step)⟩
     ·replace c7:=Bool.eq_false_iff.mpr c7;subst c7;have H1:(some false)=some r:=by rw[if_neg (show¬(false=true) by decide)]at H;exact H
      clear H;have H:=H1;clear H1;obtain rfl:=Option.some.inj H;have aJ:0≤(aA:Int):=oD' qA;have aI:aA<(l0.length:Int):=oD' qA;obtain⟨aE,aR,aP⟩:=Kd.at_int aQ.out aA aJ aI
      cases aR
      replace aJ:=eq_true aJ;replace aI:=eq_true aI;go_wp2_with (first|(go_at_call 82;(with_reducible refine(spec_l00In.calls (rd l0 aA) a1 a2 false _ A6.out).mono ?_);rintro e w' ⟨rfl,⟨nd,rfl⟩⟩;(try first|exact⟨rfl,_,World.drewN_drewN _ _ _⟩|exact⟨rfl,_,Eq.trans (World.drewN_drewN _ _ _) (congrArg (World.drewN _) (Nat.add_assoc _ _ _))⟩)))
      repeat(go_quiet (first|(go_at_call 82;(with_reducible refine(spec_l00In.calls (rd l0 aA) a1 a2 false _ A6.out).mono ?_);rintro e w' ⟨rfl,⟨nd,rfl⟩⟩;(try first|exact⟨rfl,_,World.drewN_drewN _ _ _⟩|exact⟨rfl,_,Eq.trans (World.drewN_drewN _ _ _) (congrArg (World.drewN _) (Nat.add_assoc _ _ _))⟩)));try go_wp2_with (first|(go_at_call 82;(with_reducible refine(spec_l00In.calls (rd l0 aA) a1 a2 false _ A6.out).mono ?_);rintro e w' ⟨rfl,⟨nd,rfl⟩⟩;(try first|exact⟨rfl,_,World.drewN_drewN _ _ _⟩|exact⟨rfl,_,Eq.trans (World.drewN_drewN _ _ _) (congrArg (World.drewN _) (Nat.add_assoc _ _ _))⟩))))
      go_ret;exact⟨by first|rfl|(simp;done)|(simp[*];done),by repeat(first|exact Drawn0.refl _|apply Drawn0.step)⟩
    ·rw[if_neg c5]at H;exact absurd H (by simp)
   ·rw[if_neg c4]at H;have c4b0:decide (aA<(l0.length:Int))=false:=dF' c4;clear c4;obtain rfl:=Option.some.inj H;go_wp2
    repeat(go_quiet (fail);try go_wp2)
    go_ret;exact⟨by first|rfl|(simp;done)|(simp[*];done),by repeat(first|exact Drawn0.refl _|apply Drawn0.step)⟩
/-! ### spec_l09Some: function 61 -/
def spec_l09Some.f (k:Nat) (aC:List (S90)) (aB:List (S104)) (l1:List Int):Option (Bool):=(spec_l00Rises.f k l1 0 (wrap64 ((aB.length:Int) - 1))).bind fun aA=>(some aA)
theorem spec_l09Some.mono: ∀a0 a1 a2 k,LeO (spec_l09Some.f k a0 a1 a2) (spec_l09Some.f (k+1) a0 a1 a2):=by
 intro a0 a1 a2 k
 unfold spec_l09Some.f
 repeat' first
  |(with_reducible exact spec_l00Rises.mono _ _ _ _)
  |(with_reducible exact LeO.refl _)
  |(with_reducible exact LeO.none _)
  |(with_reducible refine LeO.ite ?_ ?_)
  |(with_reducible refine LeO.bind ?_ (fun _=>?_))
  |exact LeO.none _
  |refine LeO.ite ?_ ?_
  |refine LeO.bind ?_ (fun _=>?_)
set_option maxHeartbeats 8000000 in
set_option maxRecDepth 100000 in
theorem spec_l09Some.calls (k:Nat) (aN:Nat) (aI:Option Addr) (aJ:Nat) (aB:List (S90)) (aH:Option Addr) (aK:Nat) (aA:List (S104)) (A1:Option Addr) (c1:Nat) (l1:List Int) (r:Bool) (w:World) (aX:w.heap[aN]? =some (.cells #[.slice aI aB.length aJ,.slice aH aA.length aK] 33 (0,0))) (aD:Kd.C k90 w aI aB.length aB) (aF:aB.length≤aJ) (aG:Kd.C k104 w aH aA.length aA) (aE:aA.length≤aK) (aV:Kd.C (Kd.int .i64) w A1 l1.length l1) (aU:l1.length≤c1) (h:spec_l09Some.f k aB aA l1=some r):
 Calls Try.prog 61 #[.pointer (some ⟨aN,0,none⟩),.slice A1 l1.length c1] w fun e w'=>e= .returned (.bool r)∧Below w.heap.size w w':=by
 have bA:=A' aD;have aY:=A' aF;clear aD aF;have aT:=A' aG;have aW:=A' aE;clear aG aE;have bB:=A' aV;have bC:=A' aU;clear aV aU;have aO:=A' aX;clear aX;have HB:=A' (Below.refl w.heap.size w);have H:((spec_l00Rises.f k l1 0 (wrap64 ((aA.length:Int) - 1))).bind fun aC=>(some aC))=some r:=h;clear h;replace H:=Option.bind_eq_some_iff.mp H;obtain⟨aC,aZ,H⟩:=H;replace H:(some aC)=some r:=H;have A3:=A' aZ;clear aZ;obtain rfl:=Option.some.inj H;have aS:w.cell? ⟨aN,0,none⟩=some (.slice aI aB.length aJ):=(N' aO.out 0).trans rfl;have aP:w.cell? ⟨aN,1,none⟩=some (.slice aH aA.length aK):=(N' aO.out 1).trans rfl;have aR:=Y' aO.out 0;have aQ:=Y' aO.out 1;go_enter Try.func61,Try.ntmps61;go_wp2_with (first|((with_reducible refine gate_callee (f:=97) rfl ?_);refine goesL_ (some 12) rfl rfl Try.func97 (by kernel_rfl) rfl #[.slice A1 l1.length c1,.int .i64 0,.int .i64 (wrap64 ((aA.length:Int) - 1))] rfl (by(try simp only[List.map_toArray,List.map_cons,List.map_nil]);first|done|rfl|(simp only[List.length_drop,List.length_take];rfl)) ?_;(with_reducible refine(spec_l00Rises.calls k _ _ l1 0 (wrap64 ((aA.length:Int) - 1)) aC _ ?aM ?aL A3.out).mono ?_);(case aM=>exact qT bB.out);(case aL=>exact bC.out);rintro e w' ⟨rfl,⟨nd,rfl⟩⟩;refine⟨_,rfl,?_⟩));go_ret;exact⟨qE,qK0 HB.out⟩
end Go.Proofs.Ytebbdadpgapobaa.HEl
