-- Written by a program for this claim (the functions that the statement reaches, and that the program's code comes to them).
import Derived.Test.YtifdihbndlmgpaaGreatDoorHWysx0
import Derived.Test.YtifdihbndlmgpaaGreatDoorHWysx2
import Derived.Test.YtifdihbndlmgpaaGreatDoorHWysx3
namespace Go.Proofs.YtifdihbndlmgpaaGreatDoor.HWys
open Go.RowKit Go.Proofs.YtifdihbndlmgpaaGreatDoorW.PrintWords Go.Proofs.YtifdihbndlmgpaaGreatDoorW.PrintLast Go.Proofs.YtifdihbndlmgpaaGreatDoorW.PrintMore
attribute [local go_sem] max2_int min2_int max_two min_two max_three min_three max_four min_four
set_option linter.unusedVariables false
set_option linter.unusedSimpArgs false
/-! ### impl_wayFault: function 32 -/
def impl_wayFault.l0:Nat→List (S51)→List (S51)→Int→Int→Int→Int→Bool→Option (ByteArray×Int)
 |0,_,_,_,_,_,_,_=>none
 |k+1,x1,x8,x9,aD,aB,aA,aC=>if aD<x9 then(if 0≤aD then(if aD<(x8.length:Int)then((impl_blockAt.f aB aA aC aD).bind fun aF=>(if((rd_T51 x8 aD).f0)=aF then((impl_sheavesAt.f aB aA aC ((rd_T51 x8 aD).f0)).bind fun aE=>((impl_within.f ((rd_T51 x8 aD).f1) 0 (wrap64 (aE - 1))).bind fun aG=>(if aG=true then(if aD≤(x1.length:Int)then((impl_Stop_57.f k (x1.take (aD:Int).toNat) ((rd_T51 x8 aD).f0) ((rd_T51 x8 aD).f1)).bind fun aH=>(if aH=true then(some ((⟨#[116,119,105,99,101]⟩:ByteArray),aD))else(impl_wayFault.l0 k x1 x8 x9 (wrap64 (aD+1)) aB aA aC)))else(none))else(some ((⟨#[115,104,101,97,118,101]⟩:ByteArray),aD)))))else(some ((⟨#[98,108,111,99,107]⟩:ByteArray),aD))))else(none))else(none))else(if(x1.length:Int)<(wrap64 (aB+aA))then(some ((⟨#[115,104,111,114,116]⟩:ByteArray),(x1.length:Int)))else(some ((⟨#[110,111,110,101]⟩:ByteArray),(-1))))
def impl_wayFault.f (k:Nat) (aA:Int) (aB:Int) (aC:Bool) (l1:List (S51)):Option (ByteArray×Int):=impl_wayFault.l0 k l1 l1 (l1.length:Int) 0 aA aB aC
theorem impl_wayFault.mono_l: ∀k,(∀y0 y1 y2 y3 y4 y5 y6,LeO (impl_wayFault.l0 k y0 y1 y2 y3 y4 y5 y6) (impl_wayFault.l0 (k+1) y0 y1 y2 y3 y4 y5 y6))
 |0=>fun _ _ _ _ _ _ _ r h=>by simp[impl_wayFault.l0]at h
 |k+1=>by
  have aA:=impl_wayFault.mono_l k
  ·intro y0 y1 y2 y3 y4 y5 y6
   unfold impl_wayFault.l0
   repeat' first
   |(with_reducible exact aA _ _ _ _ _ _ _)
   |(with_reducible exact impl_Stop_57.mono _ _ _ _)
   |(with_reducible exact LeO.refl _)
   |(with_reducible exact LeO.none _)
   |(with_reducible refine LeO.ite ?_ ?_)
   |(with_reducible refine LeO.bind ?_ (fun _=>?_))
   |exact LeO.none _
   |refine LeO.ite ?_ ?_
   |refine LeO.bind ?_ (fun _=>?_)
theorem impl_wayFault.mono: ∀a0 a1 a2 a3 k,LeO (impl_wayFault.f k a0 a1 a2 a3) (impl_wayFault.f (k+1) a0 a1 a2 a3):=by
 intro a0 a1 a2 a3 k
 have aA:=impl_wayFault.mono_l k
 unfold impl_wayFault.f
 repeat' first
   |(with_reducible exact aA _ _ _ _ _ _ _)
   |(with_reducible exact impl_Stop_57.mono _ _ _ _)
   |(with_reducible exact LeO.refl _)
   |(with_reducible exact LeO.none _)
   |(with_reducible refine LeO.ite ?_ ?_)
   |(with_reducible refine LeO.bind ?_ (fun _=>?_))
   |exact LeO.none _
   |refine LeO.ite ?_ ?_
   |refine LeO.bind ?_ (fun _=>?_)
def impl_wayFault.T6:Bool×List (List Nat×List Nat):=(true,[([],[]),([0],[0]),([],[]),([],[]),([3],[3]),([2,4],[2,4]),([5],[5]),([1,6,5],[1,6]),([7],[7]),([8,7],[8])])
def impl_wayFault.B6:List Nat:=[0,1,0,0,8,28,60,127,255,511]
theorem impl_wayFault.tab6:rtab .any (opsOf Tryz.f32 6)=impl_wayFault.T6:=by kernel_rfl
theorem impl_wayFault.bits6:waitsOk impl_wayFault.T6.2 impl_wayFault.B6=true:=by kernel_rfl
set_option maxHeartbeats 8000000 in
set_option maxRecDepth 100000 in
theorem impl_wayFault.calls (k:Nat) (aI:Int) (aH:Int) (aJ:Bool) (A1:Option Addr) (c1:Nat) (l1:List (S51)) (r1:ByteArray) (r2:Int) (w:World) (dJ:Kd.C k51 w A1 l1.length l1) (dX:l1.length≤c1) (h:impl_wayFault.f k aI aH aJ l1=some (r1,r2)):
  Calls Tryz.prog 32 #[.agg #[.int .i64 aI,.int .i64 aH,.bool aJ],.slice A1 l1.length c1] w fun e w'=>e= .returned (.tuple #[.string r1,.int .i64 r2])∧Below w.heap.size w w':=by
 have eJ:=Tryz.underlying25;have eG:=Tryz.underlying51;have bU:=A' dJ;have dW:=A' dX;clear dJ dX;have HB:=A' (Below.refl w.heap.size w);have H:(impl_wayFault.l0 k l1 l1 (l1.length:Int) 0 aI aH aJ)=some (r1,r2):=h;clear h;have H':=A' H;clear H;go_enter Tryz.func32,Tryz.ntmps32;go_wp2_with (first|((with_reducible refine gate_dst (N:=2) rfl ?_);refine box_event ?hg (N:=2) ?hd (cs:=#[.int .i64 aI,.int .i64 aH,.bool aJ]) (t:=25) ?hr ?_;(case hd=>rfl);(case hg=>rfl);(case hr=>first|(go_simp;done)|(go_simp;rfl));intro aE hg w3 hbox hb;have n0_:=A' (W' (qK0 HB.out) hb);have n1_:=A' (hbox);have n2_:=A' ((by rw[hg];exact(V' (qK0 HB.out)):w.heap.size≤aE));have n3_:=A' ((by rw[hg];exact(V' (qK0 HB.out)):w.heap.size≤aE));clear HB;have HB:=n0_;have aB:=n1_;have dK:=n2_;have aG:=n3_;clear n0_ n1_ n2_ n3_;clear hb hbox hg))
 go_loopg [10] k (fun kq eD w'=>∃(aA:Int),eD= .int .i64 aA∧Aside0 (impl_wayFault.l0 kq l1 l1 (l1.length:Int) aA aI aH aJ=some (r1,r2))∧Aside0 (kq≤k)∧Aside0 (w'.heap[aE]? =some (.cells #[.int .i64 aI,.int .i64 aH,.bool aJ] 25 (0,0)))∧Aside0 (Below w.heap.size w w'))
 case atStart=>exact⟨(0),qS,H',⟨Nat.le_refl _⟩,⟨qB aB.out⟩,⟨qK1 HB.out aG.out⟩⟩
 case round=>
  clear H';try clear c1
  try clear p2
  try clear c3
  obtain⟨aA,rfl,HA,dY,aB,HB⟩:=hrel
  cases gk with
  |zero=>exact absurd HA.out (by simp[impl_wayFault.l0])
  |succ k1=>
   have H:=HA.out;clear HA;simp only[impl_wayFault.l0]at H
   by_cases c4:aA<(l1.length:Int)
   ·rw[if_pos c4]at H;have c4b0:decide (aA<(l1.length:Int))=true:=dT' c4;clear c4
    by_cases c5:0≤aA
    ·rw[if_pos c5]at H;have c5b0:decide (0≤aA)=true:=dT' c5;clear c5
     by_cases c6:aA<(l1.length:Int)
     ·rw[if_pos c6]at H;have c6b0:decide (aA<(l1.length:Int))=true:=dT' c6;clear c6;replace H:=Option.bind_eq_some_iff.mp H;obtain⟨aT,dN,H⟩:=H;replace H:(if((rd_T51 l1 aA).f0)=aT then((impl_sheavesAt.f aI aH aJ ((rd_T51 l1 aA).f0)).bind fun aS=>((impl_within.f ((rd_T51 l1 aA).f1) 0 (wrap64 (aS - 1))).bind fun bB=>(if bB=true then(if aA≤(l1.length:Int)then((impl_Stop_57.f k1 (l1.take (aA:Int).toNat) ((rd_T51 l1 aA).f0) ((rd_T51 l1 aA).f1)).bind fun aR=>(if aR=true then(some ((⟨#[116,119,105,99,101]⟩:ByteArray),aA))else(impl_wayFault.l0 k1 l1 l1 (l1.length:Int) (wrap64 (aA+1)) aI aH aJ)))else(none))else(some ((⟨#[115,104,101,97,118,101]⟩:ByteArray),aA)))))else(some ((⟨#[98,108,111,99,107]⟩:ByteArray),aA)))=some (r1,r2):=H;have A7:=A' dN;clear dN
      by_cases c8:((rd_T51 l1 aA).f0)=aT
      ·rw[if_pos c8]at H;have c8b0:(((rd_T51 l1 aA).f0) == aT)=true:=beq_iff_eq.mpr c8;have c8b1:(((rd_T51 l1 aA).f0) != aT)=false:=bne_eq_false_iff_eq.mpr c8;clear c8;replace H:=Option.bind_eq_some_iff.mp H;obtain⟨aS,dO,H⟩:=H;replace H:((impl_within.f ((rd_T51 l1 aA).f1) 0 (wrap64 (aS - 1))).bind fun bB=>(if bB=true then(if aA≤(l1.length:Int)then((impl_Stop_57.f k1 (l1.take (aA:Int).toNat) ((rd_T51 l1 aA).f0) ((rd_T51 l1 aA).f1)).bind fun aR=>(if aR=true then(some ((⟨#[116,119,105,99,101]⟩:ByteArray),aA))else(impl_wayFault.l0 k1 l1 l1 (l1.length:Int) (wrap64 (aA+1)) aI aH aJ)))else(none))else(some ((⟨#[115,104,101,97,118,101]⟩:ByteArray),aA))))=some (r1,r2):=H;have A9:=A' dO;clear dO;replace H:=Option.bind_eq_some_iff.mp H;obtain⟨bB,bV,H⟩:=H;replace H:(if bB=true then(if aA≤(l1.length:Int)then((impl_Stop_57.f k1 (l1.take (aA:Int).toNat) ((rd_T51 l1 aA).f0) ((rd_T51 l1 aA).f1)).bind fun aR=>(if aR=true then(some ((⟨#[116,119,105,99,101]⟩:ByteArray),aA))else(impl_wayFault.l0 k1 l1 l1 (l1.length:Int) (wrap64 (aA+1)) aI aH aJ)))else(none))else(some ((⟨#[115,104,101,97,118,101]⟩:ByteArray),aA)))=some (r1,r2):=H;have dI:=A' bV;clear bV
       by_cases cV:bB=true
       ·subst cV;have H1:(if aA≤(l1.length:Int)then((impl_Stop_57.f k1 (l1.take (aA:Int).toNat) ((rd_T51 l1 aA).f0) ((rd_T51 l1 aA).f1)).bind fun aR=>(if aR=true then(some ((⟨#[116,119,105,99,101]⟩:ByteArray),aA))else(impl_wayFault.l0 k1 l1 l1 (l1.length:Int) (wrap64 (aA+1)) aI aH aJ)))else(none))=some (r1,r2):=by rw[if_pos rfl]at H;exact H
        clear H;have H:=H1;clear H1;have c12b0:=eq_true (oD' qA:0≤aA)
        by_cases c13:aA≤(l1.length:Int)
        ·rw[if_pos c13]at H;have c13b0:=eq_true c13;have c13b1:decide (aA≤(l1.length:Int))=true:=dT' c13;clear c13;obtain⟨aU,aV⟩: ∃y_:List (S51),y_=(l1.take (aA:Int).toNat):=⟨_,rfl⟩
         replace H:((impl_Stop_57.f k1 aU ((rd_T51 l1 aA).f0) ((rd_T51 l1 aA).f1)).bind fun aR=>(if aR=true then(some ((⟨#[116,119,105,99,101]⟩:ByteArray),aA))else(impl_wayFault.l0 k1 l1 l1 (l1.length:Int) (wrap64 (aA+1)) aI aH aJ)))=some (r1,r2):=by first|(rw[aV];with_reducible exact H)|(have H2_:=(Option.bind_some _ _).symm.trans H;rw[aV];with_reducible exact H2_)|(have H2_:=(Option.bind_some _ _).symm.trans H;with_reducible exact H2_)|with_reducible exact H|(rw[aV];exact H)|exact H
         have aY:=A' aV;clear aV;replace H:=Option.bind_eq_some_iff.mp H;obtain⟨aR,bY,H⟩:=H;replace H:(if aR=true then(some ((⟨#[116,119,105,99,101]⟩:ByteArray),aA))else(impl_wayFault.l0 k1 l1 l1 (l1.length:Int) (wrap64 (aA+1)) aI aH aJ))=some (r1,r2):=H;have dM:=A' bY;clear bY
         by_cases cW:aR=true
         ·subst cW;have H1:(some ((⟨#[116,119,105,99,101]⟩:ByteArray),aA))=some (r1,r2):=by rw[if_pos rfl]at H;exact H
          clear H;have H:=H1;clear H1;simp only[Option.some.injEq,Prod.mk.injEq]at H;obtain⟨rfl,rfl⟩:=H;have aP:0≤(aA:Int):=oD' qA;have aO:aA<(l1.length:Int):=oD' qA;obtain⟨aQ,aX,aL,aM⟩:=at_T51 bU.out aA aP aO
          cases aX
          try replace aL:=qC HB.out aL
          try replace aM:=qC HB.out aM
          replace aP:=eq_true aP;replace aO:=eq_true aO;try go_wp2_with (first|((with_reducible refine gate_dst (N:=7) rfl ?_);refine box_event ?hg (N:=7) ?hd (cs:=#[.int .i64 0,.int .i64 0]) (t:=51) ?hr ?_;(case hd=>rfl);(case hg=>rfl);(case hr=>first|(go_simp;done)|(go_simp;rfl));intro aD hg bT hbox hb;have n0_:=A' (O' (g:=aE) (qB aB.out) hb);have n1_:=A' (W' (qK1 HB.out aG.out) hb);have n2_:=A' (hbox);have n3_:=A' ((by rw[hg];exact(V' (qK1 HB.out aG.out)):w.heap.size≤aD));have n4_:=A' ((by rw[hg];exact(V' (qK1 HB.out aG.out)):w.heap.size≤aD));have n5_:=A' ((by rw[hg];exact Nat.ne_of_lt (bL' (g:=aE) (qB aB.out)):aE≠aD));have n6_:=A' ((by rw[hg];exact Nat.ne_of_gt (bL' (g:=aE) (qB aB.out)):aD≠aE));clear aB;clear HB;have aB:=n0_;have HB:=n1_;have aC:=n2_;have bC:=n3_;have aK:=n4_;have aF:=n5_;have aN:=n6_;clear n0_ n1_ n2_ n3_ n4_ n5_ n6_;clear hb hbox hg;have dT:=aN.out;have dS:=aF.out;have cO:bT.cell? ⟨aD,0,none⟩=some (.int .i64 0):=(N' aC.out 0).trans rfl;have cZ:bT.cell? ⟨aD,1,none⟩=some (.int .i64 0):=(N' aC.out 1).trans rfl;have cG:=Y' aC.out 0;have cY:=Y' aC.out 1))
          have n0_:Aside0 (((bT.setCell ⟨aD,0,none⟩ (.int .i64 ((rd_T51 l1 aA).f0))).setCell ⟨aD,1,none⟩ (.int .i64 ((rd_T51 l1 aA).f1))).heap[aE]? =some (.cells #[.int .i64 aI,.int .i64 aH,.bool aJ] 25 (0,0))):=⟨qG2 aB.out aF.out aF.out⟩
          have n1_:Aside0 (((bT.setCell ⟨aD,0,none⟩ (.int .i64 ((rd_T51 l1 aA).f0))).setCell ⟨aD,1,none⟩ (.int .i64 ((rd_T51 l1 aA).f1))).heap[aD]? =some (.cells #[.int .i64 ((rd_T51 l1 aA).f0),.int .i64 ((rd_T51 l1 aA).f1)] 51 (0,0))):=⟨by(with_reducible repeat(first|refine G' ?_ _|refine I' ?_|refine hA' ?_ _));refine blk_put (cs:=#[.int .i64 ((rd_T51 l1 aA).f0),.int .i64 0]) ?_ 1 _ rfl;(with_reducible repeat(first|refine G' ?_ _|refine I' ?_|refine hA' ?_ _));refine blk_put (cs:=#[.int .i64 0,.int .i64 0]) ?_ 0 _ rfl;(with_reducible repeat(first|refine G' ?_ _|refine I' ?_|refine hA' ?_ _));exact aC.out⟩
          have n2_:Aside0 (Below w.heap.size w ((bT.setCell ⟨aD,0,none⟩ (.int .i64 ((rd_T51 l1 aA).f0))).setCell ⟨aD,1,none⟩ (.int .i64 ((rd_T51 l1 aA).f1)))):=⟨qK2 HB.out aG.out aK.out⟩
          (try clear aB);(try clear aC);(try clear HB)
          generalize ((bT.setCell ⟨aD,0,none⟩ (.int .i64 ((rd_T51 l1 aA).f0))).setCell ⟨aD,1,none⟩ (.int .i64 ((rd_T51 l1 aA).f1)))=eE at n0_ n1_ n2_ ⊢
          have aB:=n0_;have aC:=n1_;have HB:=n2_;clear n0_ n1_ n2_;replace aB:=A' (I' aB.out);replace aC:=A' (I' aC.out);replace HB:=A' (J' HB.out);refine start_ (n:=7) (S:=fun w'=>w'.cell? ⟨aD,0,none⟩=some (.int .i64 ((rd_T51 l1 aA).f0))∧w'.cell? ⟨aD,1,none⟩=some (.int .i64 ((rd_T51 l1 aA).f1))∧w'.cell? ⟨aE,0,none⟩=some (.int .i64 aI)∧w'.cell? ⟨aE,1,none⟩=some (.int .i64 aH)∧w'.cell? ⟨aE,2,none⟩=some (.bool aJ)) (ds:=[]) #[n',n',n',n',n',n',n'] (by kernel_rfl) rfl rfl ⟨(N' aC.out 0).trans rfl,(N' aC.out 1).trans rfl,(N' aB.out 0).trans rfl,(N' aB.out 1).trans rfl,(N' aB.out 2).trans rfl⟩ (fun hHeld=>?_)
          generalize eE.drew=w20 at aB aC HB hHeld ⊢
          refine pure_ (i:=0) (N:=some 16) (v:=?_) (a':=?_) #[y',n',n',n',n',n',n'] rfl rfl (by kernel_rfl) (fun _ _ _ h=>h) (Or.inl ⟨by rfl,?_⟩) ?_ ?_;rotate_left
          ·exact qI
          rotate_left
          ·exact qP
          refine pure_ (i:=3) (N:=some 19) (v:=?_) (a':=?_) #[y',n',n',y',n',n',n'] rfl rfl (by kernel_rfl) (fun _ _ _ h=>h) (Or.inl ⟨by rfl,?_⟩) ?_ ?_;rotate_left
          ·exact qI
          rotate_left
          ·exact qP
          refine take_ (i:=1) (N:=some 17) (v:=?_) (a':=?_) #[y',y',n',y',n',n',n'] rfl rfl (by kernel_rfl) (fun _ _ _ h=>h) (Or.inl ⟨by rfl,?_⟩) hHeld ?_ ?_;rotate_left
          ·rintro w' ⟨s0,s1,s2,s3,s4⟩;go_simp;with_reducible rfl
          rotate_left
          ·exact qP
          refine take_ (i:=2) (N:=some 18) (v:=?_) (a':=?_) #[y',y',y',y',n',n',n'] rfl rfl (by kernel_rfl) (fun _ _ _ h=>h) (Or.inl ⟨by rfl,?_⟩) hHeld ?_ ?_;rotate_left
          ·rintro w' ⟨s0,s1,s2,s3,s4⟩;go_simp;with_reducible rfl
          rotate_left
          ·exact qP
          refine one_ (i:=4) (N:=some 20) #[y',y',y',y',y',n',n'] rfl rfl (by kernel_rfl) (by decide) (fun K hK=>?_);refine goes_ Tryz.func35 (by kernel_rfl) rfl #[.agg #[.int .i64 aI,.int .i64 aH,.bool aJ],.int .i64 aA] (by rfl) rfl rfl (by(try simp only[List.map_toArray,List.map_cons,List.map_nil]);first|done|rfl|(simp only[List.length_drop,List.length_take];rfl)) ?_
          with_reducible refine(impl_blockAt.calls aI aH aJ aA aT _ A7.out).mono ?_
          rintro e eF ⟨rfl,hb⟩;refine⟨_,rfl,?_⟩;replace aB:=A' (O' (g:=aE) (qB aB.out) hb);replace aC:=A' (O' (g:=aD) (qB aC.out) hb);replace HB:=A' (W' (qK2 HB.out aG.out aK.out) hb);(try clear hb);(try clear hb2);(try clear hk);(try clear hi);refine hK.out _ _ ⟨(N' aC.out 0).trans rfl,(N' aC.out 1).trans rfl,(N' aB.out 0).trans rfl,(N' aB.out 1).trans rfl,(N' aB.out 2).trans rfl⟩ (fun hHeld=>?_);clear hK K;refine norm_ (a':=?_) ?_ ?_;rotate_left
          ·show Act.put _ (some 20) _=_
           exact qP
          refine pure_ (i:=5) (N:=some 21) (v:=?_) (a':=?_) #[y',y',y',y',y',y',n'] rfl rfl (by kernel_rfl) (fun _ _ _ h=>h) (Or.inl ⟨by rfl,?_⟩) ?_ ?_;rotate_left
          ·exact qI
          rotate_left
          ·exact qP
          refine pure_ (i:=6) (N:=some 15) (v:=?_) (a':=?_) #[y',y',y',y',y',y',y'] rfl rfl (by kernel_rfl) (fun _ _ _ h=>h) (Or.inl ⟨by rfl,?_⟩) ?_ ?_;rotate_left
          ·exact qI
          rotate_left
          ·exact qP
          refine done_ (by kernel_rfl) ?_;try go_wp2
          replace aB:=A' (I' aB.out);replace aC:=A' (I' aC.out);replace HB:=A' (J' HB.out);refine start_ (n:=10) (S:=fun w'=>w'.cell? ⟨aD,0,none⟩=some (.int .i64 ((rd_T51 l1 aA).f0))∧w'.cell? ⟨aD,1,none⟩=some (.int .i64 ((rd_T51 l1 aA).f1))∧w'.cell? ⟨aE,0,none⟩=some (.int .i64 aI)∧w'.cell? ⟨aE,1,none⟩=some (.int .i64 aH)∧w'.cell? ⟨aE,2,none⟩=some (.bool aJ)) (ds:=[]) #[n',n',n',n',n',n',n',n',n',n'] (by kernel_rfl) rfl rfl ⟨(N' aC.out 0).trans rfl,(N' aC.out 1).trans rfl,(N' aB.out 0).trans rfl,(N' aB.out 1).trans rfl,(N' aB.out 2).trans rfl⟩ (fun hHeld=>?_);refine with_tabW impl_wayFault.tab6 impl_wayFault.bits6 (fun HT_ HW_=>?_)
          generalize eF.drew=w22 at aB aC HB hHeld ⊢
          refine pure_ (i:=0) (N:=some 24) (v:=?_) (a':=?_) #[y',n',n',n',n',n',n',n',n',n'] rfl rfl (any_of HT_.out (by kernel_rfl)) (fun _ _ _ h=>h) (Or.inl ⟨by rfl,?_⟩) ?_ ?_;rotate_left
          ·exact qI
          rotate_left
          ·exact qP
          refine pure_ (i:=3) (N:=some 27) (v:=?_) (a':=?_) #[y',n',n',y',n',n',n',n',n',n'] rfl rfl (any_of HT_.out (by kernel_rfl)) (fun _ _ _ h=>h) (Or.inl ⟨by rfl,?_⟩) ?_ ?_;rotate_left
          ·exact qI
          rotate_left
          ·exact qP
          refine take_ (i:=1) (N:=some 25) (v:=?_) (a':=?_) #[y',y',n',y',n',n',n',n',n',n'] rfl rfl (take_ofW HT_.out HW_.out (by kernel_rfl)) (fun _ _ _ h=>h) (Or.inl ⟨by rfl,?_⟩) hHeld ?_ ?_;rotate_left
          ·rintro w' ⟨s0,s1,s2,s3,s4⟩;go_simp;with_reducible rfl
          rotate_left
          ·exact qP
          refine take_ (i:=2) (N:=some 26) (v:=?_) (a':=?_) #[y',y',y',y',n',n',n',n',n',n'] rfl rfl (take_ofW HT_.out HW_.out (by kernel_rfl)) (fun _ _ _ h=>h) (Or.inl ⟨by rfl,?_⟩) hHeld ?_ ?_;rotate_left
          ·rintro w' ⟨s0,s1,s2,s3,s4⟩;go_simp;with_reducible rfl
          rotate_left
          ·exact qP
          refine take_ (i:=4) (N:=some 28) (v:=?_) (a':=?_) #[y',y',y',y',y',n',n',n',n',n'] rfl rfl (take_ofW HT_.out HW_.out (by kernel_rfl)) (fun _ _ _ h=>h) (Or.inl ⟨by rfl,?_⟩) hHeld ?_ ?_;rotate_left
          ·rintro w' ⟨s0,s1,s2,s3,s4⟩;go_simp;with_reducible rfl
          rotate_left
          ·exact qP
          refine one_ (i:=5) (N:=some 29) #[y',y',y',y',y',y',n',n',n',n'] rfl rfl (one_of HT_.out (by kernel_rfl)) (by decide) (fun K hK=>?_);refine goes_ Tryz.func28 (by kernel_rfl) rfl #[.agg #[.int .i64 aI,.int .i64 aH,.bool aJ],.int .i64 ((rd_T51 l1 aA).f0)] (by rfl) rfl rfl (by(try simp only[List.map_toArray,List.map_cons,List.map_nil]);first|done|rfl|(simp only[List.length_drop,List.length_take];rfl)) ?_
          with_reducible refine(impl_sheavesAt.calls aI aH aJ ((rd_T51 l1 aA).f0) aS _ A9.out).mono ?_
          rintro e bL ⟨rfl,hb⟩;refine⟨_,rfl,?_⟩;replace aB:=A' (O' (g:=aE) (qB aB.out) hb);replace aC:=A' (O' (g:=aD) (qB aC.out) hb);replace HB:=A' (W' (qK2 HB.out aG.out aK.out) hb);(try clear hb);(try clear hb2);(try clear hk);(try clear hi);refine hK.out _ _ ⟨(N' aC.out 0).trans rfl,(N' aC.out 1).trans rfl,(N' aB.out 0).trans rfl,(N' aB.out 1).trans rfl,(N' aB.out 2).trans rfl⟩ (fun hHeld=>?_);clear hK K;refine norm_ (a':=?_) ?_ ?_;rotate_left
          ·show Act.put _ (some 29) _=_
           exact qP
          refine pure_ (i:=6) (N:=some 30) (v:=?_) (a':=?_) #[y',y',y',y',y',y',y',n',n',n'] rfl rfl (any_of HT_.out (by kernel_rfl)) (fun _ _ _ h=>h) (Or.inl ⟨by rfl,?_⟩) ?_ ?_;rotate_left
          ·exact qI
          rotate_left
          ·exact qP
          refine one_ (i:=7) (N:=some 31) #[y',y',y',y',y',y',y',y',n',n'] rfl rfl (one_of HT_.out (by kernel_rfl)) (by decide) (fun K hK=>?_);refine goes_ Tryz.func43 (by kernel_rfl) rfl #[.int .i64 ((rd_T51 l1 aA).f1),.int .i64 0,.int .i64 (wrap64 (aS - 1))] (by rfl) rfl rfl (by(try simp only[List.map_toArray,List.map_cons,List.map_nil]);first|done|rfl|(simp only[List.length_drop,List.length_take];rfl)) ?_
          with_reducible refine(impl_within.calls ((rd_T51 l1 aA).f1) 0 (wrap64 (aS - 1)) true _ dI.out).mono ?_
          rintro e w' ⟨rfl,⟨nd,rfl⟩⟩;refine⟨_,rfl,?_⟩;refine hK.out _ _ ⟨(N' aC.out 0).trans rfl,(N' aC.out 1).trans rfl,(N' aB.out 0).trans rfl,(N' aB.out 1).trans rfl,(N' aB.out 2).trans rfl⟩ (fun hHeld=>?_);clear hK K;refine norm_ (a':=?_) ?_ ?_;rotate_left
          ·show Act.put _ (some 31) _=_
           exact qP
          refine pure_ (i:=8) (N:=some 32) (v:=?_) (a':=?_) #[y',y',y',y',y',y',y',y',y',n'] rfl rfl (any_of HT_.out (by kernel_rfl)) (fun _ _ _ h=>h) (Or.inl ⟨by rfl,?_⟩) ?_ ?_;rotate_left
          ·exact qI
          rotate_left
          ·exact qP
          refine pure_ (i:=9) (N:=some 23) (v:=?_) (a':=?_) #[y',y',y',y',y',y',y',y',y',y'] rfl rfl (any_of HT_.out (by kernel_rfl)) (fun _ _ _ h=>h) (Or.inl ⟨by rfl,?_⟩) ?_ ?_;rotate_left
          ·exact qI
          rotate_left
          ·exact qP
          refine done_ (done_of HT_.out (by kernel_rfl)) ?_;try go_wp2
          (try(rw[drewN_self bL];generalize hq_:World.drewN bL _=bL;have n0_:Aside0 (bL.heap[aE]? =some (.cells #[.int .i64 aI,.int .i64 aH,.bool aJ] 25 (0,0))):=⟨by rw[← hq_];exact(qB aB.out)⟩;have n1_:Aside0 (bL.heap[aD]? =some (.cells #[.int .i64 ((rd_T51 l1 aA).f0),.int .i64 ((rd_T51 l1 aA).f1)] 51 (0,0))):=⟨by rw[← hq_];exact(qB aC.out)⟩;have n2_:Aside0 (Below w.heap.size w bL):=⟨by rw[← hq_];exact(qK2 HB.out aG.out aK.out)⟩;clear aB aC HB hq_;have aB:=n0_;have aC:=n1_;have HB:=n2_;clear n0_ n1_ n2_));replace aB:=A' (I' aB.out);replace aC:=A' (I' aC.out);replace HB:=A' (J' HB.out);have dG:(aA:Int)≤((l1.length:Int):Int):=oD' qA;obtain⟨i025,bH,_,bZ,_⟩:=info_parts info51;have aZ:l1.length≤c1:=dW.out;have bX:Kd.C k51 _ (some aQ) l1.length l1:=bU.out;have bK:=cut_to (P:=Tryz.prog) 26 51 .i64 Tryz.underlying26 bH (some aQ) l1.length c1 aA (oD' qA) dG aZ;have bO:=Kd.C_take (m:=(aA:Int).toNat) bX (by omega);have bJ:aU.length=(aA:Int).toNat:=(by rw[aY.out,List.length_take];omega)
          rw[← aY.out]at bO;rw[← bJ]at bK;have aW:=A' bO;have bF:=A' (show aU.length≤c1 from by omega);clear bO bX aZ bH bZ;have eB:=A' bJ;clear bJ;replace dG:=eq_true dG;refine start_ (n:=6) (S:=fun w'=>w'.cell? ⟨aD,0,none⟩=some (.int .i64 ((rd_T51 l1 aA).f0))∧w'.cell? ⟨aD,1,none⟩=some (.int .i64 ((rd_T51 l1 aA).f1))) (ds:=[]) #[n',n',n',n',n',n'] (by kernel_rfl) rfl rfl ⟨(N' aC.out 0).trans rfl,(N' aC.out 1).trans rfl⟩ (fun hHeld=>?_)
          generalize bL.drew=w24 at aB aC HB aW hHeld ⊢
          refine pure_ (i:=0) (N:=some 35) (v:=?_) (a':=?_) #[y',n',n',n',n',n'] rfl rfl (by kernel_rfl) (fun _ _ _ h=>h) (Or.inl ⟨by rfl,?_⟩) ?_ ?_;rotate_left
          ·exact qI
          rotate_left
          ·exact qP
          refine pure_ (i:=1) (N:=some 36) (v:=?_) (a':=?_) #[y',y',n',n',n',n'] rfl rfl (by kernel_rfl) (fun _ _ _ h=>h) (Or.inl ⟨by rfl,?_⟩) ?_ ?_;rotate_left
          ·exact qI
          rotate_left
          ·exact qP
          refine pure_ (i:=2) (N:=some 37) (v:=?_) (a':=?_) #[y',y',y',n',n',n'] rfl rfl (by kernel_rfl) (fun _ _ _ h=>h) (Or.inl ⟨by rfl,?_⟩) ?_ ?_;rotate_left
          ·exact qI
          rotate_left
          ·exact qP
          refine take_ (i:=3) (N:=some 38) (v:=?_) (a':=?_) #[y',y',y',y',n',n'] rfl rfl (by kernel_rfl) (fun _ _ _ h=>h) (Or.inl ⟨by rfl,?_⟩) hHeld ?_ ?_;rotate_left
          ·rintro w' ⟨s0,s1⟩;go_simp;with_reducible rfl
          rotate_left
          ·exact qP
          refine one_ (i:=4) (N:=some 39) #[y',y',y',y',y',n'] rfl rfl (by kernel_rfl) (by decide) (fun K hK=>?_);refine goes_ Tryz.func57 (by kernel_rfl) rfl #[.slice (some aQ) aU.length c1,.agg #[.int .i64 ((rd_T51 l1 aA).f0),.int .i64 ((rd_T51 l1 aA).f1)]] (by rfl) rfl rfl (by(try simp only[List.map_toArray,List.map_cons,List.map_nil]);first|done|rfl|(simp only[List.length_drop,List.length_take];rfl)) ?_
          with_reducible refine(impl_Stop_57.calls k1 _ _ aU ((rd_T51 l1 aA).f0) ((rd_T51 l1 aA).f1) true _ ?bE ?bD dM.out).mono ?_
          (case bE=>exact qT (X' aW.out HB.out));(case bD=>exact bF.out);rintro e eN ⟨rfl,hb⟩;refine⟨_,rfl,?_⟩;replace aB:=A' (O' (g:=aE) (qB aB.out) hb);replace aC:=A' (O' (g:=aD) (qB aC.out) hb);replace HB:=A' (W' (qK2 HB.out aG.out aK.out) hb);(try clear hb);(try clear hb2);(try clear hk);(try clear hi);refine hK.out _ _ ⟨(N' aC.out 0).trans rfl,(N' aC.out 1).trans rfl⟩ (fun hHeld=>?_);clear hK K;refine norm_ (a':=?_) ?_ ?_;rotate_left
          ·show Act.put _ (some 39) _=_
           exact qP
          refine pure_ (i:=5) (N:=some 34) (v:=?_) (a':=?_) #[y',y',y',y',y',y'] rfl rfl (by kernel_rfl) (fun _ _ _ h=>h) (Or.inl ⟨by rfl,?_⟩) ?_ ?_;rotate_left
          ·exact qI
          rotate_left
          ·exact qP
          refine done_ (by kernel_rfl) ?_;try go_wp2
          go_ret2;exact⟨qE,qK2 HB.out aG.out aK.out⟩
         ·replace cW:=Bool.eq_false_iff.mpr cW;subst cW;have H1:(impl_wayFault.l0 k1 l1 l1 (l1.length:Int) (wrap64 (aA+1)) aI aH aJ)=some (r1,r2):=by rw[if_neg (show¬(false=true) by decide)]at H;exact H
          clear H;have H:=H1;clear H1;have H':=A' H;clear H;have aP:0≤(aA:Int):=oD' qA;have aO:aA<(l1.length:Int):=oD' qA;obtain⟨aQ,aX,aL,aM⟩:=at_T51 bU.out aA aP aO
          cases aX
          try replace aL:=qC HB.out aL
          try replace aM:=qC HB.out aM
          replace aP:=eq_true aP;replace aO:=eq_true aO;try go_wp2_with (first|((with_reducible refine gate_dst (N:=7) rfl ?_);refine box_event ?hg (N:=7) ?hd (cs:=#[.int .i64 0,.int .i64 0]) (t:=51) ?hr ?_;(case hd=>rfl);(case hg=>rfl);(case hr=>first|(go_simp;done)|(go_simp;rfl));intro aD hg bR hbox hb;have n0_:=A' (O' (g:=aE) (qB aB.out) hb);have n1_:=A' (W' (qK1 HB.out aG.out) hb);have n2_:=A' (hbox);have n3_:=A' ((by rw[hg];exact(V' (qK1 HB.out aG.out)):w.heap.size≤aD));have n4_:=A' ((by rw[hg];exact(V' (qK1 HB.out aG.out)):w.heap.size≤aD));have n5_:=A' ((by rw[hg];exact Nat.ne_of_lt (bL' (g:=aE) (qB aB.out)):aE≠aD));have n6_:=A' ((by rw[hg];exact Nat.ne_of_gt (bL' (g:=aE) (qB aB.out)):aD≠aE));clear aB;clear HB;have aB:=n0_;have HB:=n1_;have aC:=n2_;have bC:=n3_;have aK:=n4_;have aF:=n5_;have aN:=n6_;clear n0_ n1_ n2_ n3_ n4_ n5_ n6_;clear hb hbox hg;have dU:=aN.out;have dR:=aF.out;have cM:bR.cell? ⟨aD,0,none⟩=some (.int .i64 0):=(N' aC.out 0).trans rfl;have cI:bR.cell? ⟨aD,1,none⟩=some (.int .i64 0):=(N' aC.out 1).trans rfl;have cK:=Y' aC.out 0;have cT:=Y' aC.out 1))
          have n0_:Aside0 (((bR.setCell ⟨aD,0,none⟩ (.int .i64 ((rd_T51 l1 aA).f0))).setCell ⟨aD,1,none⟩ (.int .i64 ((rd_T51 l1 aA).f1))).heap[aE]? =some (.cells #[.int .i64 aI,.int .i64 aH,.bool aJ] 25 (0,0))):=⟨qG2 aB.out aF.out aF.out⟩
          have n1_:Aside0 (((bR.setCell ⟨aD,0,none⟩ (.int .i64 ((rd_T51 l1 aA).f0))).setCell ⟨aD,1,none⟩ (.int .i64 ((rd_T51 l1 aA).f1))).heap[aD]? =some (.cells #[.int .i64 ((rd_T51 l1 aA).f0),.int .i64 ((rd_T51 l1 aA).f1)] 51 (0,0))):=⟨by(with_reducible repeat(first|refine G' ?_ _|refine I' ?_|refine hA' ?_ _));refine blk_put (cs:=#[.int .i64 ((rd_T51 l1 aA).f0),.int .i64 0]) ?_ 1 _ rfl;(with_reducible repeat(first|refine G' ?_ _|refine I' ?_|refine hA' ?_ _));refine blk_put (cs:=#[.int .i64 0,.int .i64 0]) ?_ 0 _ rfl;(with_reducible repeat(first|refine G' ?_ _|refine I' ?_|refine hA' ?_ _));exact aC.out⟩
          have n2_:Aside0 (Below w.heap.size w ((bR.setCell ⟨aD,0,none⟩ (.int .i64 ((rd_T51 l1 aA).f0))).setCell ⟨aD,1,none⟩ (.int .i64 ((rd_T51 l1 aA).f1)))):=⟨qK2 HB.out aG.out aK.out⟩
          (try clear aB);(try clear aC);(try clear HB)
          generalize ((bR.setCell ⟨aD,0,none⟩ (.int .i64 ((rd_T51 l1 aA).f0))).setCell ⟨aD,1,none⟩ (.int .i64 ((rd_T51 l1 aA).f1)))=eI at n0_ n1_ n2_ ⊢
          have aB:=n0_;have aC:=n1_;have HB:=n2_;clear n0_ n1_ n2_;replace aB:=A' (I' aB.out);replace aC:=A' (I' aC.out);replace HB:=A' (J' HB.out);refine start_ (n:=7) (S:=fun w'=>w'.cell? ⟨aD,0,none⟩=some (.int .i64 ((rd_T51 l1 aA).f0))∧w'.cell? ⟨aD,1,none⟩=some (.int .i64 ((rd_T51 l1 aA).f1))∧w'.cell? ⟨aE,0,none⟩=some (.int .i64 aI)∧w'.cell? ⟨aE,1,none⟩=some (.int .i64 aH)∧w'.cell? ⟨aE,2,none⟩=some (.bool aJ)) (ds:=[]) #[n',n',n',n',n',n',n'] (by kernel_rfl) rfl rfl ⟨(N' aC.out 0).trans rfl,(N' aC.out 1).trans rfl,(N' aB.out 0).trans rfl,(N' aB.out 1).trans rfl,(N' aB.out 2).trans rfl⟩ (fun hHeld=>?_)
          generalize eI.drew=w31 at aB aC HB hHeld ⊢
          refine pure_ (i:=0) (N:=some 16) (v:=?_) (a':=?_) #[y',n',n',n',n',n',n'] rfl rfl (by kernel_rfl) (fun _ _ _ h=>h) (Or.inl ⟨by rfl,?_⟩) ?_ ?_;rotate_left
          ·exact qI
          rotate_left
          ·exact qP
          refine pure_ (i:=3) (N:=some 19) (v:=?_) (a':=?_) #[y',n',n',y',n',n',n'] rfl rfl (by kernel_rfl) (fun _ _ _ h=>h) (Or.inl ⟨by rfl,?_⟩) ?_ ?_;rotate_left
          ·exact qI
          rotate_left
          ·exact qP
          refine take_ (i:=1) (N:=some 17) (v:=?_) (a':=?_) #[y',y',n',y',n',n',n'] rfl rfl (by kernel_rfl) (fun _ _ _ h=>h) (Or.inl ⟨by rfl,?_⟩) hHeld ?_ ?_;rotate_left
          ·rintro w' ⟨s0,s1,s2,s3,s4⟩;go_simp;with_reducible rfl
          rotate_left
          ·exact qP
          refine take_ (i:=2) (N:=some 18) (v:=?_) (a':=?_) #[y',y',y',y',n',n',n'] rfl rfl (by kernel_rfl) (fun _ _ _ h=>h) (Or.inl ⟨by rfl,?_⟩) hHeld ?_ ?_;rotate_left
          ·rintro w' ⟨s0,s1,s2,s3,s4⟩;go_simp;with_reducible rfl
          rotate_left
          ·exact qP
          refine one_ (i:=4) (N:=some 20) #[y',y',y',y',y',n',n'] rfl rfl (by kernel_rfl) (by decide) (fun K hK=>?_);refine goes_ Tryz.func35 (by kernel_rfl) rfl #[.agg #[.int .i64 aI,.int .i64 aH,.bool aJ],.int .i64 aA] (by rfl) rfl rfl (by(try simp only[List.map_toArray,List.map_cons,List.map_nil]);first|done|rfl|(simp only[List.length_drop,List.length_take];rfl)) ?_
          with_reducible refine(impl_blockAt.calls aI aH aJ aA aT _ A7.out).mono ?_
          rintro e dZ ⟨rfl,hb⟩;refine⟨_,rfl,?_⟩;replace aB:=A' (O' (g:=aE) (qB aB.out) hb);replace aC:=A' (O' (g:=aD) (qB aC.out) hb);replace HB:=A' (W' (qK2 HB.out aG.out aK.out) hb);(try clear hb);(try clear hb2);(try clear hk);(try clear hi);refine hK.out _ _ ⟨(N' aC.out 0).trans rfl,(N' aC.out 1).trans rfl,(N' aB.out 0).trans rfl,(N' aB.out 1).trans rfl,(N' aB.out 2).trans rfl⟩ (fun hHeld=>?_);clear hK K;refine norm_ (a':=?_) ?_ ?_;rotate_left
          ·show Act.put _ (some 20) _=_
           exact qP
          refine pure_ (i:=5) (N:=some 21) (v:=?_) (a':=?_) #[y',y',y',y',y',y',n'] rfl rfl (by kernel_rfl) (fun _ _ _ h=>h) (Or.inl ⟨by rfl,?_⟩) ?_ ?_;rotate_left
          ·exact qI
          rotate_left
          ·exact qP
          refine pure_ (i:=6) (N:=some 15) (v:=?_) (a':=?_) #[y',y',y',y',y',y',y'] rfl rfl (by kernel_rfl) (fun _ _ _ h=>h) (Or.inl ⟨by rfl,?_⟩) ?_ ?_;rotate_left
          ·exact qI
          rotate_left
          ·exact qP
          refine done_ (by kernel_rfl) ?_;try go_wp2
          replace aB:=A' (I' aB.out);replace aC:=A' (I' aC.out);replace HB:=A' (J' HB.out);refine start_ (n:=10) (S:=fun w'=>w'.cell? ⟨aD,0,none⟩=some (.int .i64 ((rd_T51 l1 aA).f0))∧w'.cell? ⟨aD,1,none⟩=some (.int .i64 ((rd_T51 l1 aA).f1))∧w'.cell? ⟨aE,0,none⟩=some (.int .i64 aI)∧w'.cell? ⟨aE,1,none⟩=some (.int .i64 aH)∧w'.cell? ⟨aE,2,none⟩=some (.bool aJ)) (ds:=[]) #[n',n',n',n',n',n',n',n',n',n'] (by kernel_rfl) rfl rfl ⟨(N' aC.out 0).trans rfl,(N' aC.out 1).trans rfl,(N' aB.out 0).trans rfl,(N' aB.out 1).trans rfl,(N' aB.out 2).trans rfl⟩ (fun hHeld=>?_);refine with_tabW impl_wayFault.tab6 impl_wayFault.bits6 (fun HT_ HW_=>?_)
          generalize dZ.drew=w33 at aB aC HB hHeld ⊢
          refine pure_ (i:=0) (N:=some 24) (v:=?_) (a':=?_) #[y',n',n',n',n',n',n',n',n',n'] rfl rfl (any_of HT_.out (by kernel_rfl)) (fun _ _ _ h=>h) (Or.inl ⟨by rfl,?_⟩) ?_ ?_;rotate_left
          ·exact qI
          rotate_left
          ·exact qP
          refine pure_ (i:=3) (N:=some 27) (v:=?_) (a':=?_) #[y',n',n',y',n',n',n',n',n',n'] rfl rfl (any_of HT_.out (by kernel_rfl)) (fun _ _ _ h=>h) (Or.inl ⟨by rfl,?_⟩) ?_ ?_;rotate_left
          ·exact qI
          rotate_left
          ·exact qP
          refine take_ (i:=1) (N:=some 25) (v:=?_) (a':=?_) #[y',y',n',y',n',n',n',n',n',n'] rfl rfl (take_ofW HT_.out HW_.out (by kernel_rfl)) (fun _ _ _ h=>h) (Or.inl ⟨by rfl,?_⟩) hHeld ?_ ?_;rotate_left
          ·rintro w' ⟨s0,s1,s2,s3,s4⟩;go_simp;with_reducible rfl
          rotate_left
          ·exact qP
          refine take_ (i:=2) (N:=some 26) (v:=?_) (a':=?_) #[y',y',y',y',n',n',n',n',n',n'] rfl rfl (take_ofW HT_.out HW_.out (by kernel_rfl)) (fun _ _ _ h=>h) (Or.inl ⟨by rfl,?_⟩) hHeld ?_ ?_;rotate_left
          ·rintro w' ⟨s0,s1,s2,s3,s4⟩;go_simp;with_reducible rfl
          rotate_left
          ·exact qP
          refine take_ (i:=4) (N:=some 28) (v:=?_) (a':=?_) #[y',y',y',y',y',n',n',n',n',n'] rfl rfl (take_ofW HT_.out HW_.out (by kernel_rfl)) (fun _ _ _ h=>h) (Or.inl ⟨by rfl,?_⟩) hHeld ?_ ?_;rotate_left
          ·rintro w' ⟨s0,s1,s2,s3,s4⟩;go_simp;with_reducible rfl
          rotate_left
          ·exact qP
          refine one_ (i:=5) (N:=some 29) #[y',y',y',y',y',y',n',n',n',n'] rfl rfl (one_of HT_.out (by kernel_rfl)) (by decide) (fun K hK=>?_);refine goes_ Tryz.func28 (by kernel_rfl) rfl #[.agg #[.int .i64 aI,.int .i64 aH,.bool aJ],.int .i64 ((rd_T51 l1 aA).f0)] (by rfl) rfl rfl (by(try simp only[List.map_toArray,List.map_cons,List.map_nil]);first|done|rfl|(simp only[List.length_drop,List.length_take];rfl)) ?_
          with_reducible refine(impl_sheavesAt.calls aI aH aJ ((rd_T51 l1 aA).f0) aS _ A9.out).mono ?_
          rintro e bN ⟨rfl,hb⟩;refine⟨_,rfl,?_⟩;replace aB:=A' (O' (g:=aE) (qB aB.out) hb);replace aC:=A' (O' (g:=aD) (qB aC.out) hb);replace HB:=A' (W' (qK2 HB.out aG.out aK.out) hb);(try clear hb);(try clear hb2);(try clear hk);(try clear hi);refine hK.out _ _ ⟨(N' aC.out 0).trans rfl,(N' aC.out 1).trans rfl,(N' aB.out 0).trans rfl,(N' aB.out 1).trans rfl,(N' aB.out 2).trans rfl⟩ (fun hHeld=>?_);clear hK K;refine norm_ (a':=?_) ?_ ?_;rotate_left
          ·show Act.put _ (some 29) _=_
           exact qP
          refine pure_ (i:=6) (N:=some 30) (v:=?_) (a':=?_) #[y',y',y',y',y',y',y',n',n',n'] rfl rfl (any_of HT_.out (by kernel_rfl)) (fun _ _ _ h=>h) (Or.inl ⟨by rfl,?_⟩) ?_ ?_;rotate_left
          ·exact qI
          rotate_left
          ·exact qP
          refine one_ (i:=7) (N:=some 31) #[y',y',y',y',y',y',y',y',n',n'] rfl rfl (one_of HT_.out (by kernel_rfl)) (by decide) (fun K hK=>?_);refine goes_ Tryz.func43 (by kernel_rfl) rfl #[.int .i64 ((rd_T51 l1 aA).f1),.int .i64 0,.int .i64 (wrap64 (aS - 1))] (by rfl) rfl rfl (by(try simp only[List.map_toArray,List.map_cons,List.map_nil]);first|done|rfl|(simp only[List.length_drop,List.length_take];rfl)) ?_
          with_reducible refine(impl_within.calls ((rd_T51 l1 aA).f1) 0 (wrap64 (aS - 1)) true _ dI.out).mono ?_
          rintro e w' ⟨rfl,⟨nd,rfl⟩⟩;refine⟨_,rfl,?_⟩;refine hK.out _ _ ⟨(N' aC.out 0).trans rfl,(N' aC.out 1).trans rfl,(N' aB.out 0).trans rfl,(N' aB.out 1).trans rfl,(N' aB.out 2).trans rfl⟩ (fun hHeld=>?_);clear hK K;refine norm_ (a':=?_) ?_ ?_;rotate_left
          ·show Act.put _ (some 31) _=_
           exact qP
          refine pure_ (i:=8) (N:=some 32) (v:=?_) (a':=?_) #[y',y',y',y',y',y',y',y',y',n'] rfl rfl (any_of HT_.out (by kernel_rfl)) (fun _ _ _ h=>h) (Or.inl ⟨by rfl,?_⟩) ?_ ?_;rotate_left
          ·exact qI
          rotate_left
          ·exact qP
          refine pure_ (i:=9) (N:=some 23) (v:=?_) (a':=?_) #[y',y',y',y',y',y',y',y',y',y'] rfl rfl (any_of HT_.out (by kernel_rfl)) (fun _ _ _ h=>h) (Or.inl ⟨by rfl,?_⟩) ?_ ?_;rotate_left
          ·exact qI
          rotate_left
          ·exact qP
          refine done_ (done_of HT_.out (by kernel_rfl)) ?_;try go_wp2
          (try(rw[drewN_self bN];generalize hq_:World.drewN bN _=bN;have n0_:Aside0 (bN.heap[aE]? =some (.cells #[.int .i64 aI,.int .i64 aH,.bool aJ] 25 (0,0))):=⟨by rw[← hq_];exact(qB aB.out)⟩;have n1_:Aside0 (bN.heap[aD]? =some (.cells #[.int .i64 ((rd_T51 l1 aA).f0),.int .i64 ((rd_T51 l1 aA).f1)] 51 (0,0))):=⟨by rw[← hq_];exact(qB aC.out)⟩;have n2_:Aside0 (Below w.heap.size w bN):=⟨by rw[← hq_];exact(qK2 HB.out aG.out aK.out)⟩;clear aB aC HB hq_;have aB:=n0_;have aC:=n1_;have HB:=n2_;clear n0_ n1_ n2_));replace aB:=A' (I' aB.out);replace aC:=A' (I' aC.out);replace HB:=A' (J' HB.out);have dH:(aA:Int)≤((l1.length:Int):Int):=oD' qA;obtain⟨i036,bG,_,cA,_⟩:=info_parts info51;have bA:l1.length≤c1:=dW.out;have bW:Kd.C k51 _ (some aQ) l1.length l1:=bU.out;have bM:=cut_to (P:=Tryz.prog) 26 51 .i64 Tryz.underlying26 bG (some aQ) l1.length c1 aA (oD' qA) dH bA;have bI:=Kd.C_take (m:=(aA:Int).toNat) bW (by omega);have bP:aU.length=(aA:Int).toNat:=(by rw[aY.out,List.length_take];omega)
          rw[← aY.out]at bI;rw[← bP]at bM;have aW:=A' bI;have bF:=A' (show aU.length≤c1 from by omega);clear bI bW bA bG cA;have eC:=A' bP;clear bP;replace dH:=eq_true dH;refine start_ (n:=6) (S:=fun w'=>w'.cell? ⟨aD,0,none⟩=some (.int .i64 ((rd_T51 l1 aA).f0))∧w'.cell? ⟨aD,1,none⟩=some (.int .i64 ((rd_T51 l1 aA).f1))) (ds:=[]) #[n',n',n',n',n',n'] (by kernel_rfl) rfl rfl ⟨(N' aC.out 0).trans rfl,(N' aC.out 1).trans rfl⟩ (fun hHeld=>?_)
          generalize bN.drew=w35 at aB aC HB aW hHeld ⊢
          refine pure_ (i:=0) (N:=some 35) (v:=?_) (a':=?_) #[y',n',n',n',n',n'] rfl rfl (by kernel_rfl) (fun _ _ _ h=>h) (Or.inl ⟨by rfl,?_⟩) ?_ ?_;rotate_left
          ·exact qI
          rotate_left
          ·exact qP
          refine pure_ (i:=1) (N:=some 36) (v:=?_) (a':=?_) #[y',y',n',n',n',n'] rfl rfl (by kernel_rfl) (fun _ _ _ h=>h) (Or.inl ⟨by rfl,?_⟩) ?_ ?_;rotate_left
          ·exact qI
          rotate_left
          ·exact qP
          refine pure_ (i:=2) (N:=some 37) (v:=?_) (a':=?_) #[y',y',y',n',n',n'] rfl rfl (by kernel_rfl) (fun _ _ _ h=>h) (Or.inl ⟨by rfl,?_⟩) ?_ ?_;rotate_left
          ·exact qI
          rotate_left
          ·exact qP
          refine take_ (i:=3) (N:=some 38) (v:=?_) (a':=?_) #[y',y',y',y',n',n'] rfl rfl (by kernel_rfl) (fun _ _ _ h=>h) (Or.inl ⟨by rfl,?_⟩) hHeld ?_ ?_;rotate_left
          ·rintro w' ⟨s0,s1⟩;go_simp;with_reducible rfl
          rotate_left
          ·exact qP
          refine one_ (i:=4) (N:=some 39) #[y',y',y',y',y',n'] rfl rfl (by kernel_rfl) (by decide) (fun K hK=>?_);refine goes_ Tryz.func57 (by kernel_rfl) rfl #[.slice (some aQ) aU.length c1,.agg #[.int .i64 ((rd_T51 l1 aA).f0),.int .i64 ((rd_T51 l1 aA).f1)]] (by rfl) rfl rfl (by(try simp only[List.map_toArray,List.map_cons,List.map_nil]);first|done|rfl|(simp only[List.length_drop,List.length_take];rfl)) ?_
          with_reducible refine(impl_Stop_57.calls k1 _ _ aU ((rd_T51 l1 aA).f0) ((rd_T51 l1 aA).f1) false _ ?bE ?bD dM.out).mono ?_
          (case bE=>exact qT (X' aW.out HB.out));(case bD=>exact bF.out);rintro e eM ⟨rfl,hb⟩;refine⟨_,rfl,?_⟩;replace aB:=A' (O' (g:=aE) (qB aB.out) hb);replace aC:=A' (O' (g:=aD) (qB aC.out) hb);replace HB:=A' (W' (qK2 HB.out aG.out aK.out) hb);(try clear hb);(try clear hb2);(try clear hk);(try clear hi);refine hK.out _ _ ⟨(N' aC.out 0).trans rfl,(N' aC.out 1).trans rfl⟩ (fun hHeld=>?_);clear hK K;refine norm_ (a':=?_) ?_ ?_;rotate_left
          ·show Act.put _ (some 39) _=_
           exact qP
          refine pure_ (i:=5) (N:=some 34) (v:=?_) (a':=?_) #[y',y',y',y',y',y'] rfl rfl (by kernel_rfl) (fun _ _ _ h=>h) (Or.inl ⟨by rfl,?_⟩) ?_ ?_;rotate_left
          ·exact qI
          rotate_left
          ·exact qP
          refine done_ (by kernel_rfl) ?_;try go_wp2
          go_roundg k1
          case measure=>have:=dY.out;omega
          case rel=>exact⟨(wrap64 (aA+1)),qS,H',⟨by have:=dY.out;omega⟩,⟨qB aB.out⟩,⟨qK2 HB.out aG.out aK.out⟩⟩
        ·rw[if_neg c13]at H;exact absurd H (by simp)
       ·replace cV:=Bool.eq_false_iff.mpr cV;subst cV;have H1:(some ((⟨#[115,104,101,97,118,101]⟩:ByteArray),aA))=some (r1,r2):=by rw[if_neg (show¬(false=true) by decide)]at H;exact H
        clear H;have H:=H1;clear H1;simp only[Option.some.injEq,Prod.mk.injEq]at H;obtain⟨rfl,rfl⟩:=H;have aP:0≤(aA:Int):=oD' qA;have aO:aA<(l1.length:Int):=oD' qA;obtain⟨aQ,aX,aL,aM⟩:=at_T51 bU.out aA aP aO
        cases aX
        try replace aL:=qC HB.out aL
        try replace aM:=qC HB.out aM
        replace aP:=eq_true aP;replace aO:=eq_true aO;try go_wp2_with (first|((with_reducible refine gate_dst (N:=7) rfl ?_);refine box_event ?hg (N:=7) ?hd (cs:=#[.int .i64 0,.int .i64 0]) (t:=51) ?hr ?_;(case hd=>rfl);(case hg=>rfl);(case hr=>first|(go_simp;done)|(go_simp;rfl));intro aD hg bS hbox hb;have n0_:=A' (O' (g:=aE) (qB aB.out) hb);have n1_:=A' (W' (qK1 HB.out aG.out) hb);have n2_:=A' (hbox);have n3_:=A' ((by rw[hg];exact(V' (qK1 HB.out aG.out)):w.heap.size≤aD));have n4_:=A' ((by rw[hg];exact(V' (qK1 HB.out aG.out)):w.heap.size≤aD));have n5_:=A' ((by rw[hg];exact Nat.ne_of_lt (bL' (g:=aE) (qB aB.out)):aE≠aD));have n6_:=A' ((by rw[hg];exact Nat.ne_of_gt (bL' (g:=aE) (qB aB.out)):aD≠aE));clear aB;clear HB;have aB:=n0_;have HB:=n1_;have aC:=n2_;have bC:=n3_;have aK:=n4_;have aF:=n5_;have aN:=n6_;clear n0_ n1_ n2_ n3_ n4_ n5_ n6_;clear hb hbox hg;have dV:=aN.out;have dP:=aF.out;have cD:bS.cell? ⟨aD,0,none⟩=some (.int .i64 0):=(N' aC.out 0).trans rfl;have dC:bS.cell? ⟨aD,1,none⟩=some (.int .i64 0):=(N' aC.out 1).trans rfl;have dB:=Y' aC.out 0;have cS:=Y' aC.out 1))
        have n0_:Aside0 (((bS.setCell ⟨aD,0,none⟩ (.int .i64 ((rd_T51 l1 aA).f0))).setCell ⟨aD,1,none⟩ (.int .i64 ((rd_T51 l1 aA).f1))).heap[aE]? =some (.cells #[.int .i64 aI,.int .i64 aH,.bool aJ] 25 (0,0))):=⟨qG2 aB.out aF.out aF.out⟩
        have n1_:Aside0 (((bS.setCell ⟨aD,0,none⟩ (.int .i64 ((rd_T51 l1 aA).f0))).setCell ⟨aD,1,none⟩ (.int .i64 ((rd_T51 l1 aA).f1))).heap[aD]? =some (.cells #[.int .i64 ((rd_T51 l1 aA).f0),.int .i64 ((rd_T51 l1 aA).f1)] 51 (0,0))):=⟨by(with_reducible repeat(first|refine G' ?_ _|refine I' ?_|refine hA' ?_ _));refine blk_put (cs:=#[.int .i64 ((rd_T51 l1 aA).f0),.int .i64 0]) ?_ 1 _ rfl;(with_reducible repeat(first|refine G' ?_ _|refine I' ?_|refine hA' ?_ _));refine blk_put (cs:=#[.int .i64 0,.int .i64 0]) ?_ 0 _ rfl;(with_reducible repeat(first|refine G' ?_ _|refine I' ?_|refine hA' ?_ _));exact aC.out⟩
        have n2_:Aside0 (Below w.heap.size w ((bS.setCell ⟨aD,0,none⟩ (.int .i64 ((rd_T51 l1 aA).f0))).setCell ⟨aD,1,none⟩ (.int .i64 ((rd_T51 l1 aA).f1)))):=⟨qK2 HB.out aG.out aK.out⟩
        (try clear aB);(try clear aC);(try clear HB)
        generalize ((bS.setCell ⟨aD,0,none⟩ (.int .i64 ((rd_T51 l1 aA).f0))).setCell ⟨aD,1,none⟩ (.int .i64 ((rd_T51 l1 aA).f1)))=eK at n0_ n1_ n2_ ⊢
        have aB:=n0_;have aC:=n1_;have HB:=n2_;clear n0_ n1_ n2_;replace aB:=A' (I' aB.out);replace aC:=A' (I' aC.out);replace HB:=A' (J' HB.out);refine start_ (n:=7) (S:=fun w'=>w'.cell? ⟨aD,0,none⟩=some (.int .i64 ((rd_T51 l1 aA).f0))∧w'.cell? ⟨aD,1,none⟩=some (.int .i64 ((rd_T51 l1 aA).f1))∧w'.cell? ⟨aE,0,none⟩=some (.int .i64 aI)∧w'.cell? ⟨aE,1,none⟩=some (.int .i64 aH)∧w'.cell? ⟨aE,2,none⟩=some (.bool aJ)) (ds:=[]) #[n',n',n',n',n',n',n'] (by kernel_rfl) rfl rfl ⟨(N' aC.out 0).trans rfl,(N' aC.out 1).trans rfl,(N' aB.out 0).trans rfl,(N' aB.out 1).trans rfl,(N' aB.out 2).trans rfl⟩ (fun hHeld=>?_)
        generalize eK.drew=w42 at aB aC HB hHeld ⊢
        refine pure_ (i:=0) (N:=some 16) (v:=?_) (a':=?_) #[y',n',n',n',n',n',n'] rfl rfl (by kernel_rfl) (fun _ _ _ h=>h) (Or.inl ⟨by rfl,?_⟩) ?_ ?_;rotate_left
        ·exact qI
        rotate_left
        ·exact qP
        refine pure_ (i:=3) (N:=some 19) (v:=?_) (a':=?_) #[y',n',n',y',n',n',n'] rfl rfl (by kernel_rfl) (fun _ _ _ h=>h) (Or.inl ⟨by rfl,?_⟩) ?_ ?_;rotate_left
        ·exact qI
        rotate_left
        ·exact qP
        refine take_ (i:=1) (N:=some 17) (v:=?_) (a':=?_) #[y',y',n',y',n',n',n'] rfl rfl (by kernel_rfl) (fun _ _ _ h=>h) (Or.inl ⟨by rfl,?_⟩) hHeld ?_ ?_;rotate_left
        ·rintro w' ⟨s0,s1,s2,s3,s4⟩;go_simp;with_reducible rfl
        rotate_left
        ·exact qP
        refine take_ (i:=2) (N:=some 18) (v:=?_) (a':=?_) #[y',y',y',y',n',n',n'] rfl rfl (by kernel_rfl) (fun _ _ _ h=>h) (Or.inl ⟨by rfl,?_⟩) hHeld ?_ ?_;rotate_left
        ·rintro w' ⟨s0,s1,s2,s3,s4⟩;go_simp;with_reducible rfl
        rotate_left
        ·exact qP
        refine one_ (i:=4) (N:=some 20) #[y',y',y',y',y',n',n'] rfl rfl (by kernel_rfl) (by decide) (fun K hK=>?_);refine goes_ Tryz.func35 (by kernel_rfl) rfl #[.agg #[.int .i64 aI,.int .i64 aH,.bool aJ],.int .i64 aA] (by rfl) rfl rfl (by(try simp only[List.map_toArray,List.map_cons,List.map_nil]);first|done|rfl|(simp only[List.length_drop,List.length_take];rfl)) ?_
        with_reducible refine(impl_blockAt.calls aI aH aJ aA aT _ A7.out).mono ?_
        rintro e eA ⟨rfl,hb⟩;refine⟨_,rfl,?_⟩;replace aB:=A' (O' (g:=aE) (qB aB.out) hb);replace aC:=A' (O' (g:=aD) (qB aC.out) hb);replace HB:=A' (W' (qK2 HB.out aG.out aK.out) hb);(try clear hb);(try clear hb2);(try clear hk);(try clear hi);refine hK.out _ _ ⟨(N' aC.out 0).trans rfl,(N' aC.out 1).trans rfl,(N' aB.out 0).trans rfl,(N' aB.out 1).trans rfl,(N' aB.out 2).trans rfl⟩ (fun hHeld=>?_);clear hK K;refine norm_ (a':=?_) ?_ ?_;rotate_left
        ·show Act.put _ (some 20) _=_
         exact qP
        refine pure_ (i:=5) (N:=some 21) (v:=?_) (a':=?_) #[y',y',y',y',y',y',n'] rfl rfl (by kernel_rfl) (fun _ _ _ h=>h) (Or.inl ⟨by rfl,?_⟩) ?_ ?_;rotate_left
        ·exact qI
        rotate_left
        ·exact qP
        refine pure_ (i:=6) (N:=some 15) (v:=?_) (a':=?_) #[y',y',y',y',y',y',y'] rfl rfl (by kernel_rfl) (fun _ _ _ h=>h) (Or.inl ⟨by rfl,?_⟩) ?_ ?_;rotate_left
        ·exact qI
        rotate_left
        ·exact qP
        refine done_ (by kernel_rfl) ?_;try go_wp2
        replace aB:=A' (I' aB.out);replace aC:=A' (I' aC.out);replace HB:=A' (J' HB.out);refine start_ (n:=10) (S:=fun w'=>w'.cell? ⟨aD,0,none⟩=some (.int .i64 ((rd_T51 l1 aA).f0))∧w'.cell? ⟨aD,1,none⟩=some (.int .i64 ((rd_T51 l1 aA).f1))∧w'.cell? ⟨aE,0,none⟩=some (.int .i64 aI)∧w'.cell? ⟨aE,1,none⟩=some (.int .i64 aH)∧w'.cell? ⟨aE,2,none⟩=some (.bool aJ)) (ds:=[]) #[n',n',n',n',n',n',n',n',n',n'] (by kernel_rfl) rfl rfl ⟨(N' aC.out 0).trans rfl,(N' aC.out 1).trans rfl,(N' aB.out 0).trans rfl,(N' aB.out 1).trans rfl,(N' aB.out 2).trans rfl⟩ (fun hHeld=>?_);refine with_tabW impl_wayFault.tab6 impl_wayFault.bits6 (fun HT_ HW_=>?_)
        generalize eA.drew=w44 at aB aC HB hHeld ⊢
        refine pure_ (i:=0) (N:=some 24) (v:=?_) (a':=?_) #[y',n',n',n',n',n',n',n',n',n'] rfl rfl (any_of HT_.out (by kernel_rfl)) (fun _ _ _ h=>h) (Or.inl ⟨by rfl,?_⟩) ?_ ?_;rotate_left
        ·exact qI
        rotate_left
        ·exact qP
        refine pure_ (i:=3) (N:=some 27) (v:=?_) (a':=?_) #[y',n',n',y',n',n',n',n',n',n'] rfl rfl (any_of HT_.out (by kernel_rfl)) (fun _ _ _ h=>h) (Or.inl ⟨by rfl,?_⟩) ?_ ?_;rotate_left
        ·exact qI
        rotate_left
        ·exact qP
        refine take_ (i:=1) (N:=some 25) (v:=?_) (a':=?_) #[y',y',n',y',n',n',n',n',n',n'] rfl rfl (take_ofW HT_.out HW_.out (by kernel_rfl)) (fun _ _ _ h=>h) (Or.inl ⟨by rfl,?_⟩) hHeld ?_ ?_;rotate_left
        ·rintro w' ⟨s0,s1,s2,s3,s4⟩;go_simp;with_reducible rfl
        rotate_left
        ·exact qP
        refine take_ (i:=2) (N:=some 26) (v:=?_) (a':=?_) #[y',y',y',y',n',n',n',n',n',n'] rfl rfl (take_ofW HT_.out HW_.out (by kernel_rfl)) (fun _ _ _ h=>h) (Or.inl ⟨by rfl,?_⟩) hHeld ?_ ?_;rotate_left
        ·rintro w' ⟨s0,s1,s2,s3,s4⟩;go_simp;with_reducible rfl
        rotate_left
        ·exact qP
        refine take_ (i:=4) (N:=some 28) (v:=?_) (a':=?_) #[y',y',y',y',y',n',n',n',n',n'] rfl rfl (take_ofW HT_.out HW_.out (by kernel_rfl)) (fun _ _ _ h=>h) (Or.inl ⟨by rfl,?_⟩) hHeld ?_ ?_;rotate_left
        ·rintro w' ⟨s0,s1,s2,s3,s4⟩;go_simp;with_reducible rfl
        rotate_left
        ·exact qP
        refine one_ (i:=5) (N:=some 29) #[y',y',y',y',y',y',n',n',n',n'] rfl rfl (one_of HT_.out (by kernel_rfl)) (by decide) (fun K hK=>?_);refine goes_ Tryz.func28 (by kernel_rfl) rfl #[.agg #[.int .i64 aI,.int .i64 aH,.bool aJ],.int .i64 ((rd_T51 l1 aA).f0)] (by rfl) rfl rfl (by(try simp only[List.map_toArray,List.map_cons,List.map_nil]);first|done|rfl|(simp only[List.length_drop,List.length_take];rfl)) ?_
        with_reducible refine(impl_sheavesAt.calls aI aH aJ ((rd_T51 l1 aA).f0) aS _ A9.out).mono ?_
        rintro e eO ⟨rfl,hb⟩;refine⟨_,rfl,?_⟩;replace aB:=A' (O' (g:=aE) (qB aB.out) hb);replace aC:=A' (O' (g:=aD) (qB aC.out) hb);replace HB:=A' (W' (qK2 HB.out aG.out aK.out) hb);(try clear hb);(try clear hb2);(try clear hk);(try clear hi);refine hK.out _ _ ⟨(N' aC.out 0).trans rfl,(N' aC.out 1).trans rfl,(N' aB.out 0).trans rfl,(N' aB.out 1).trans rfl,(N' aB.out 2).trans rfl⟩ (fun hHeld=>?_);clear hK K;refine norm_ (a':=?_) ?_ ?_;rotate_left
        ·show Act.put _ (some 29) _=_
         exact qP
        refine pure_ (i:=6) (N:=some 30) (v:=?_) (a':=?_) #[y',y',y',y',y',y',y',n',n',n'] rfl rfl (any_of HT_.out (by kernel_rfl)) (fun _ _ _ h=>h) (Or.inl ⟨by rfl,?_⟩) ?_ ?_;rotate_left
        ·exact qI
        rotate_left
        ·exact qP
        refine one_ (i:=7) (N:=some 31) #[y',y',y',y',y',y',y',y',n',n'] rfl rfl (one_of HT_.out (by kernel_rfl)) (by decide) (fun K hK=>?_);refine goes_ Tryz.func43 (by kernel_rfl) rfl #[.int .i64 ((rd_T51 l1 aA).f1),.int .i64 0,.int .i64 (wrap64 (aS - 1))] (by rfl) rfl rfl (by(try simp only[List.map_toArray,List.map_cons,List.map_nil]);first|done|rfl|(simp only[List.length_drop,List.length_take];rfl)) ?_
        with_reducible refine(impl_within.calls ((rd_T51 l1 aA).f1) 0 (wrap64 (aS - 1)) false _ dI.out).mono ?_
        rintro e w' ⟨rfl,⟨nd,rfl⟩⟩;refine⟨_,rfl,?_⟩;refine hK.out _ _ ⟨(N' aC.out 0).trans rfl,(N' aC.out 1).trans rfl,(N' aB.out 0).trans rfl,(N' aB.out 1).trans rfl,(N' aB.out 2).trans rfl⟩ (fun hHeld=>?_);clear hK K;refine norm_ (a':=?_) ?_ ?_;rotate_left
        ·show Act.put _ (some 31) _=_
         exact qP
        refine pure_ (i:=8) (N:=some 32) (v:=?_) (a':=?_) #[y',y',y',y',y',y',y',y',y',n'] rfl rfl (any_of HT_.out (by kernel_rfl)) (fun _ _ _ h=>h) (Or.inl ⟨by rfl,?_⟩) ?_ ?_;rotate_left
        ·exact qI
        rotate_left
        ·exact qP
        refine pure_ (i:=9) (N:=some 23) (v:=?_) (a':=?_) #[y',y',y',y',y',y',y',y',y',y'] rfl rfl (any_of HT_.out (by kernel_rfl)) (fun _ _ _ h=>h) (Or.inl ⟨by rfl,?_⟩) ?_ ?_;rotate_left
        ·exact qI
        rotate_left
        ·exact qP
        refine done_ (done_of HT_.out (by kernel_rfl)) ?_;try go_wp2
        go_ret2;exact⟨qE,qK2 HB.out aG.out aK.out⟩
      ·rw[if_neg c8]at H;have c8b0:(((rd_T51 l1 aA).f0) == aT)=false:=beq_eq_false_iff_ne.mpr c8;have c8b1:(((rd_T51 l1 aA).f0) != aT)=true:=bne_iff_ne.mpr c8;simp only[Option.some.injEq,Prod.mk.injEq]at H;obtain⟨rfl,rfl⟩:=H;have aP:0≤(aA:Int):=oD' qA;have aO:aA<(l1.length:Int):=oD' qA;obtain⟨aQ,aX,aL,aM⟩:=at_T51 bU.out aA aP aO
       cases aX
       try replace aL:=qC HB.out aL
       try replace aM:=qC HB.out aM
       replace aP:=eq_true aP;replace aO:=eq_true aO;try go_wp2_with (first|((with_reducible refine gate_dst (N:=7) rfl ?_);refine box_event ?hg (N:=7) ?hd (cs:=#[.int .i64 0,.int .i64 0]) (t:=51) ?hr ?_;(case hd=>rfl);(case hg=>rfl);(case hr=>first|(go_simp;done)|(go_simp;rfl));intro aD hg bQ hbox hb;have n0_:=A' (O' (g:=aE) (qB aB.out) hb);have n1_:=A' (W' (qK1 HB.out aG.out) hb);have n2_:=A' (hbox);have n3_:=A' ((by rw[hg];exact(V' (qK1 HB.out aG.out)):w.heap.size≤aD));have n4_:=A' ((by rw[hg];exact(V' (qK1 HB.out aG.out)):w.heap.size≤aD));have n5_:=A' ((by rw[hg];exact Nat.ne_of_lt (bL' (g:=aE) (qB aB.out)):aE≠aD));have n6_:=A' ((by rw[hg];exact Nat.ne_of_gt (bL' (g:=aE) (qB aB.out)):aD≠aE));clear aB;clear HB;have aB:=n0_;have HB:=n1_;have aC:=n2_;have bC:=n3_;have aK:=n4_;have aF:=n5_;have aN:=n6_;clear n0_ n1_ n2_ n3_ n4_ n5_ n6_;clear hb hbox hg;have dQ:=aN.out;have dL:=aF.out;have cE:bQ.cell? ⟨aD,0,none⟩=some (.int .i64 0):=(N' aC.out 0).trans rfl;have dA:bQ.cell? ⟨aD,1,none⟩=some (.int .i64 0):=(N' aC.out 1).trans rfl;have cF:=Y' aC.out 0;have dE:=Y' aC.out 1))
       have n0_:Aside0 (((bQ.setCell ⟨aD,0,none⟩ (.int .i64 ((rd_T51 l1 aA).f0))).setCell ⟨aD,1,none⟩ (.int .i64 ((rd_T51 l1 aA).f1))).heap[aE]? =some (.cells #[.int .i64 aI,.int .i64 aH,.bool aJ] 25 (0,0))):=⟨qG2 aB.out aF.out aF.out⟩
       have n1_:Aside0 (((bQ.setCell ⟨aD,0,none⟩ (.int .i64 ((rd_T51 l1 aA).f0))).setCell ⟨aD,1,none⟩ (.int .i64 ((rd_T51 l1 aA).f1))).heap[aD]? =some (.cells #[.int .i64 ((rd_T51 l1 aA).f0),.int .i64 ((rd_T51 l1 aA).f1)] 51 (0,0))):=⟨by(with_reducible repeat(first|refine G' ?_ _|refine I' ?_|refine hA' ?_ _));refine blk_put (cs:=#[.int .i64 ((rd_T51 l1 aA).f0),.int .i64 0]) ?_ 1 _ rfl;(with_reducible repeat(first|refine G' ?_ _|refine I' ?_|refine hA' ?_ _));refine blk_put (cs:=#[.int .i64 0,.int .i64 0]) ?_ 0 _ rfl;(with_reducible repeat(first|refine G' ?_ _|refine I' ?_|refine hA' ?_ _));exact aC.out⟩
       have n2_:Aside0 (Below w.heap.size w ((bQ.setCell ⟨aD,0,none⟩ (.int .i64 ((rd_T51 l1 aA).f0))).setCell ⟨aD,1,none⟩ (.int .i64 ((rd_T51 l1 aA).f1)))):=⟨qK2 HB.out aG.out aK.out⟩
       (try clear aB);(try clear aC);(try clear HB)
       generalize ((bQ.setCell ⟨aD,0,none⟩ (.int .i64 ((rd_T51 l1 aA).f0))).setCell ⟨aD,1,none⟩ (.int .i64 ((rd_T51 l1 aA).f1)))=eH at n0_ n1_ n2_ ⊢
       have aB:=n0_;have aC:=n1_;have HB:=n2_;clear n0_ n1_ n2_;replace aB:=A' (I' aB.out);replace aC:=A' (I' aC.out);replace HB:=A' (J' HB.out);refine start_ (n:=7) (S:=fun w'=>w'.cell? ⟨aD,0,none⟩=some (.int .i64 ((rd_T51 l1 aA).f0))∧w'.cell? ⟨aD,1,none⟩=some (.int .i64 ((rd_T51 l1 aA).f1))∧w'.cell? ⟨aE,0,none⟩=some (.int .i64 aI)∧w'.cell? ⟨aE,1,none⟩=some (.int .i64 aH)∧w'.cell? ⟨aE,2,none⟩=some (.bool aJ)) (ds:=[]) #[n',n',n',n',n',n',n'] (by kernel_rfl) rfl rfl ⟨(N' aC.out 0).trans rfl,(N' aC.out 1).trans rfl,(N' aB.out 0).trans rfl,(N' aB.out 1).trans rfl,(N' aB.out 2).trans rfl⟩ (fun hHeld=>?_)
       generalize eH.drew=w50 at aB aC HB hHeld ⊢
       refine pure_ (i:=0) (N:=some 16) (v:=?_) (a':=?_) #[y',n',n',n',n',n',n'] rfl rfl (by kernel_rfl) (fun _ _ _ h=>h) (Or.inl ⟨by rfl,?_⟩) ?_ ?_;rotate_left
       ·exact qI
       rotate_left
       ·exact qP
       refine pure_ (i:=3) (N:=some 19) (v:=?_) (a':=?_) #[y',n',n',y',n',n',n'] rfl rfl (by kernel_rfl) (fun _ _ _ h=>h) (Or.inl ⟨by rfl,?_⟩) ?_ ?_;rotate_left
       ·exact qI
       rotate_left
       ·exact qP
       refine take_ (i:=1) (N:=some 17) (v:=?_) (a':=?_) #[y',y',n',y',n',n',n'] rfl rfl (by kernel_rfl) (fun _ _ _ h=>h) (Or.inl ⟨by rfl,?_⟩) hHeld ?_ ?_;rotate_left
       ·rintro w' ⟨s0,s1,s2,s3,s4⟩;go_simp;with_reducible rfl
       rotate_left
       ·exact qP
       refine take_ (i:=2) (N:=some 18) (v:=?_) (a':=?_) #[y',y',y',y',n',n',n'] rfl rfl (by kernel_rfl) (fun _ _ _ h=>h) (Or.inl ⟨by rfl,?_⟩) hHeld ?_ ?_;rotate_left
       ·rintro w' ⟨s0,s1,s2,s3,s4⟩;go_simp;with_reducible rfl
       rotate_left
       ·exact qP
       refine one_ (i:=4) (N:=some 20) #[y',y',y',y',y',n',n'] rfl rfl (by kernel_rfl) (by decide) (fun K hK=>?_);refine goes_ Tryz.func35 (by kernel_rfl) rfl #[.agg #[.int .i64 aI,.int .i64 aH,.bool aJ],.int .i64 aA] (by rfl) rfl rfl (by(try simp only[List.map_toArray,List.map_cons,List.map_nil]);first|done|rfl|(simp only[List.length_drop,List.length_take];rfl)) ?_
       with_reducible refine(impl_blockAt.calls aI aH aJ aA aT _ A7.out).mono ?_
       rintro e eL ⟨rfl,hb⟩;refine⟨_,rfl,?_⟩;replace aB:=A' (O' (g:=aE) (qB aB.out) hb);replace aC:=A' (O' (g:=aD) (qB aC.out) hb);replace HB:=A' (W' (qK2 HB.out aG.out aK.out) hb);(try clear hb);(try clear hb2);(try clear hk);(try clear hi);refine hK.out _ _ ⟨(N' aC.out 0).trans rfl,(N' aC.out 1).trans rfl,(N' aB.out 0).trans rfl,(N' aB.out 1).trans rfl,(N' aB.out 2).trans rfl⟩ (fun hHeld=>?_);clear hK K;refine norm_ (a':=?_) ?_ ?_;rotate_left
       ·show Act.put _ (some 20) _=_
        exact qP
       refine pure_ (i:=5) (N:=some 21) (v:=?_) (a':=?_) #[y',y',y',y',y',y',n'] rfl rfl (by kernel_rfl) (fun _ _ _ h=>h) (Or.inl ⟨by rfl,?_⟩) ?_ ?_;rotate_left
       ·exact qI
       rotate_left
       ·exact qP
       refine pure_ (i:=6) (N:=some 15) (v:=?_) (a':=?_) #[y',y',y',y',y',y',y'] rfl rfl (by kernel_rfl) (fun _ _ _ h=>h) (Or.inl ⟨by rfl,?_⟩) ?_ ?_;rotate_left
       ·exact qI
       rotate_left
       ·exact qP
       refine done_ (by kernel_rfl) ?_;try go_wp2
       go_ret2;exact⟨qE,qK2 HB.out aG.out aK.out⟩
     ·rw[if_neg c6]at H;exact absurd H (by simp)
    ·rw[if_neg c5]at H;exact absurd H (by simp)
   ·rw[if_neg c4]at H;have c4b0:decide (aA<(l1.length:Int))=false:=dF' c4;clear c4
    by_cases c52:(l1.length:Int)<(wrap64 (aI+aH))
    ·rw[if_pos c52]at H;have c52b0:decide ((l1.length:Int)<(wrap64 (aI+aH)))=true:=dT' c52;clear c52;simp only[Option.some.injEq,Prod.mk.injEq]at H;obtain⟨rfl,rfl⟩:=H;have cQ:wr.cell? ⟨aE,0,none⟩=some (.int .i64 aI):=(N' aB.out 0).trans rfl;have dD:wr.cell? ⟨aE,1,none⟩=some (.int .i64 aH):=(N' aB.out 1).trans rfl;have cJ:wr.cell? ⟨aE,2,none⟩=some (.bool aJ):=(N' aB.out 2).trans rfl;have cC:=Y' aB.out 0;have cN:=Y' aB.out 1;have cX:=Y' aB.out 2;go_wp2;go_ret2;exact⟨qE,qK1 HB.out aG.out⟩
    ·rw[if_neg c52]at H;have c52b0:decide ((l1.length:Int)<(wrap64 (aI+aH)))=false:=dF' c52;clear c52;simp only[Option.some.injEq,Prod.mk.injEq]at H;obtain⟨rfl,rfl⟩:=H;have dF:wr.cell? ⟨aE,0,none⟩=some (.int .i64 aI):=(N' aB.out 0).trans rfl;have cU:wr.cell? ⟨aE,1,none⟩=some (.int .i64 aH):=(N' aB.out 1).trans rfl;have cL:wr.cell? ⟨aE,2,none⟩=some (.bool aJ):=(N' aB.out 2).trans rfl;have cP:=Y' aB.out 0;have cH:=Y' aB.out 1;have cR:=Y' aB.out 2;go_wp2;go_ret2;exact⟨qE,qK1 HB.out aG.out⟩
/-! ### impl_wayCode: function 27 -/
def impl_wayCode.f (k:Nat) (aB:Int) (aC:Int) (aD:Bool) (l1:List (S51)):Option (Int):=(impl_ValidPurchase.f k aB aC aD).bind fun aE=>(if aE=true then((impl_wayFault.f k aB aC aD l1).bind fun aA=>(if aA.1.toList=([110,111,110,101]:List UInt8)then(some 0)else(some 8)))else(some 1))
theorem impl_wayCode.mono: ∀a0 a1 a2 a3 k,LeO (impl_wayCode.f k a0 a1 a2 a3) (impl_wayCode.f (k+1) a0 a1 a2 a3):=by
 intro a0 a1 a2 a3 k
 unfold impl_wayCode.f
 repeat' first
   |(with_reducible exact impl_ValidPurchase.mono _ _ _ _)
   |(with_reducible exact impl_wayFault.mono _ _ _ _ _)
   |(with_reducible exact LeO.refl _)
   |(with_reducible exact LeO.none _)
   |(with_reducible refine LeO.ite ?_ ?_)
   |(with_reducible refine LeO.bind ?_ (fun _=>?_))
   |exact LeO.none _
   |refine LeO.ite ?_ ?_
   |refine LeO.bind ?_ (fun _=>?_)
set_option maxHeartbeats 8000000 in
set_option maxRecDepth 100000 in
theorem impl_wayCode.calls (k:Nat) (aC:Int) (aE:Int) (aD:Bool) (A1:Option Addr) (c1:Nat) (l1:List (S51)) (r:Int) (w:World) (bU:Kd.C k51 w A1 l1.length l1) (bY:l1.length≤c1) (h:impl_wayCode.f k aC aE aD l1=some r):
  Calls Tryz.prog 27 #[.agg #[.int .i64 aC,.int .i64 aE,.bool aD],.slice A1 l1.length c1] w fun e w'=>e= .returned (.int .i64 r)∧Below w.heap.size w w':=by
 have cA:=Tryz.underlying25;have bZ:=A' bU;have bW:=A' bY;clear bU bY;have HB:=A' (Below.refl w.heap.size w);have H:((impl_ValidPurchase.f k aC aE aD).bind fun aK=>(if aK=true then((impl_wayFault.f k aC aE aD l1).bind fun aH=>(if aH.1.toList=([110,111,110,101]:List UInt8)then(some 0)else(some 8)))else(some 1)))=some r:=h;clear h;replace H:=Option.bind_eq_some_iff.mp H;obtain⟨aK,bV,H⟩:=H;replace H:(if aK=true then((impl_wayFault.f k aC aE aD l1).bind fun aH=>(if aH.1.toList=([110,111,110,101]:List UInt8)then(some 0)else(some 8)))else(some 1))=some r:=H;have A3:=A' bV;clear bV
 by_cases c4:aK=true
 ·subst c4;have H1:((impl_wayFault.f k aC aE aD l1).bind fun aH=>(if aH.1.toList=([110,111,110,101]:List UInt8)then(some 0)else(some 8)))=some r:=by rw[if_pos rfl]at H;exact H
  clear H;have H:=H1;clear H1;replace H:=Option.bind_eq_some_iff.mp H;obtain⟨⟨aG,aM⟩,bX,H⟩:=H;replace H:(if aG.toList=([110,111,110,101]:List UInt8)then(some 0)else(some 8))=some r:=H;have A5:=A' bX;clear bX
  by_cases c6:aG.toList=([110,111,110,101]:List UInt8)
  ·rw[if_pos c6]at H;have c6b0:(aG.toList == ([110,111,110,101]:List UInt8))=true:=beq_iff_eq.mpr c6;have c6b1:(aG.toList != ([110,111,110,101]:List UInt8))=false:=bne_eq_false_iff_eq.mpr c6;clear c6;obtain rfl:=Option.some.inj H;go_enter Tryz.func27,Tryz.ntmps27;go_wp2_with (first|((with_reducible refine gate_dst (N:=2) rfl ?_);refine box_event ?hg (N:=2) ?hd (cs:=#[.int .i64 aC,.int .i64 aE,.bool aD]) (t:=25) ?hr ?_;(case hd=>rfl);(case hg=>rfl);(case hr=>first|(go_simp;done)|(go_simp;rfl));intro aB hg w7 hbox hb;have n0_:=A' (W' (qK0 HB.out) hb);have n1_:=A' (hbox);have n2_:=A' ((by rw[hg];exact(V' (qK0 HB.out)):w.heap.size≤aB));have n3_:=A' ((by rw[hg];exact(V' (qK0 HB.out)):w.heap.size≤aB));clear HB;have HB:=n0_;have aA:=n1_;have aL:=n2_;have aF:=n3_;clear n0_ n1_ n2_ n3_;clear hb hbox hg;have bS:w7.cell? ⟨aB,0,none⟩=some (.int .i64 aC):=(N' aA.out 0).trans rfl;have bL:w7.cell? ⟨aB,1,none⟩=some (.int .i64 aE):=(N' aA.out 1).trans rfl;have bM:w7.cell? ⟨aB,2,none⟩=some (.bool aD):=(N' aA.out 2).trans rfl;have bP:=Y' aA.out 0;have bN:=Y' aA.out 1;have bR:=Y' aA.out 2)|((with_reducible refine gate_callee (f:=31) rfl ?_);refine goesL_ (some 8) rfl rfl Tryz.func31 (by kernel_rfl) rfl #[.agg #[.int .i64 aC,.int .i64 aE,.bool aD]] rfl (by(try simp only[List.map_toArray,List.map_cons,List.map_nil]);first|done|rfl|(simp only[List.length_drop,List.length_take];rfl)) ?_;(with_reducible refine(impl_ValidPurchase.calls k aC aE aD true _ A3.out).mono ?_);rintro e w9 ⟨rfl,hb⟩;refine⟨_,rfl,?_⟩;replace aA:=A' (O' (g:=aB) (qB aA.out) hb);replace HB:=A' (W' (qK1 HB.out aF.out) hb);(try clear hb);(try clear hb2);(try clear hk);(try clear hi);have bD:w9.cell? ⟨aB,0,none⟩=some (.int .i64 aC):=(N' aA.out 0).trans rfl;have aS:w9.cell? ⟨aB,1,none⟩=some (.int .i64 aE):=(N' aA.out 1).trans rfl;have aU:w9.cell? ⟨aB,2,none⟩=some (.bool aD):=(N' aA.out 2).trans rfl;have bJ:=Y' aA.out 0;have aR:=Y' aA.out 1;have bF:=Y' aA.out 2)|((with_reducible refine gate_callee (f:=32) rfl ?_);refine goesL_ (some 13) rfl rfl Tryz.func32 (by kernel_rfl) rfl #[.agg #[.int .i64 aC,.int .i64 aE,.bool aD],.slice A1 l1.length c1] rfl (by(try simp only[List.map_toArray,List.map_cons,List.map_nil]);first|done|rfl|(simp only[List.length_drop,List.length_take];rfl)) ?_;(with_reducible refine(impl_wayFault.calls k aC aE aD _ _ l1 aG aM _ ?aJ ?aI A5.out).mono ?_);(case aJ=>exact qT (X' bZ.out HB.out));(case aI=>exact bW.out);rintro e cD ⟨rfl,hb⟩;refine⟨_,rfl,?_⟩;replace aA:=A' (O' (g:=aB) (qB aA.out) hb);replace HB:=A' (W' (qK1 HB.out aF.out) hb);(try clear hb);(try clear hb2);(try clear hk);(try clear hi)));go_ret;exact⟨qE,qK1 HB.out aF.out⟩
  ·rw[if_neg c6]at H;have c6b0:(aG.toList == ([110,111,110,101]:List UInt8))=false:=beq_eq_false_iff_ne.mpr c6;have c6b1:(aG.toList != ([110,111,110,101]:List UInt8))=true:=bne_iff_ne.mpr c6;obtain rfl:=Option.some.inj H;go_enter Tryz.func27,Tryz.ntmps27;go_wp2_with (first|((with_reducible refine gate_dst (N:=2) rfl ?_);refine box_event ?hg (N:=2) ?hd (cs:=#[.int .i64 aC,.int .i64 aE,.bool aD]) (t:=25) ?hr ?_;(case hd=>rfl);(case hg=>rfl);(case hr=>first|(go_simp;done)|(go_simp;rfl));intro aB hg bO hbox hb;have n0_:=A' (W' (qK0 HB.out) hb);have n1_:=A' (hbox);have n2_:=A' ((by rw[hg];exact(V' (qK0 HB.out)):w.heap.size≤aB));have n3_:=A' ((by rw[hg];exact(V' (qK0 HB.out)):w.heap.size≤aB));clear HB;have HB:=n0_;have aA:=n1_;have aL:=n2_;have aF:=n3_;clear n0_ n1_ n2_ n3_;clear hb hbox hg;have bE:bO.cell? ⟨aB,0,none⟩=some (.int .i64 aC):=(N' aA.out 0).trans rfl;have aP:bO.cell? ⟨aB,1,none⟩=some (.int .i64 aE):=(N' aA.out 1).trans rfl;have aW:bO.cell? ⟨aB,2,none⟩=some (.bool aD):=(N' aA.out 2).trans rfl;have bI:=Y' aA.out 0;have bK:=Y' aA.out 1;have aO:=Y' aA.out 2)|((with_reducible refine gate_callee (f:=31) rfl ?_);refine goesL_ (some 8) rfl rfl Tryz.func31 (by kernel_rfl) rfl #[.agg #[.int .i64 aC,.int .i64 aE,.bool aD]] rfl (by(try simp only[List.map_toArray,List.map_cons,List.map_nil]);first|done|rfl|(simp only[List.length_drop,List.length_take];rfl)) ?_;(with_reducible refine(impl_ValidPurchase.calls k aC aE aD true _ A3.out).mono ?_);rintro e bT ⟨rfl,hb⟩;refine⟨_,rfl,?_⟩;replace aA:=A' (O' (g:=aB) (qB aA.out) hb);replace HB:=A' (W' (qK1 HB.out aF.out) hb);(try clear hb);(try clear hb2);(try clear hk);(try clear hi);have bB:bT.cell? ⟨aB,0,none⟩=some (.int .i64 aC):=(N' aA.out 0).trans rfl;have aT:bT.cell? ⟨aB,1,none⟩=some (.int .i64 aE):=(N' aA.out 1).trans rfl;have aX:bT.cell? ⟨aB,2,none⟩=some (.bool aD):=(N' aA.out 2).trans rfl;have bH:=Y' aA.out 0;have aQ:=Y' aA.out 1;have bA:=Y' aA.out 2)|((with_reducible refine gate_callee (f:=32) rfl ?_);refine goesL_ (some 13) rfl rfl Tryz.func32 (by kernel_rfl) rfl #[.agg #[.int .i64 aC,.int .i64 aE,.bool aD],.slice A1 l1.length c1] rfl (by(try simp only[List.map_toArray,List.map_cons,List.map_nil]);first|done|rfl|(simp only[List.length_drop,List.length_take];rfl)) ?_;(with_reducible refine(impl_wayFault.calls k aC aE aD _ _ l1 aG aM _ ?aJ ?aI A5.out).mono ?_);(case aJ=>exact qT (X' bZ.out HB.out));(case aI=>exact bW.out);rintro e cE ⟨rfl,hb⟩;refine⟨_,rfl,?_⟩;replace aA:=A' (O' (g:=aB) (qB aA.out) hb);replace HB:=A' (W' (qK1 HB.out aF.out) hb);(try clear hb);(try clear hb2);(try clear hk);(try clear hi)));go_ret;exact⟨qE,qK1 HB.out aF.out⟩
 ·replace c4:=Bool.eq_false_iff.mpr c4;subst c4;have H1:(some 1)=some r:=by rw[if_neg (show¬(false=true) by decide)]at H;exact H
  clear H;have H:=H1;clear H1;obtain rfl:=Option.some.inj H;go_enter Tryz.func27,Tryz.ntmps27;go_wp2_with (first|((with_reducible refine gate_dst (N:=2) rfl ?_);refine box_event ?hg (N:=2) ?hd (cs:=#[.int .i64 aC,.int .i64 aE,.bool aD]) (t:=25) ?hr ?_;(case hd=>rfl);(case hg=>rfl);(case hr=>first|(go_simp;done)|(go_simp;rfl));intro aB hg bQ hbox hb;have n0_:=A' (W' (qK0 HB.out) hb);have n1_:=A' (hbox);have n2_:=A' ((by rw[hg];exact(V' (qK0 HB.out)):w.heap.size≤aB));have n3_:=A' ((by rw[hg];exact(V' (qK0 HB.out)):w.heap.size≤aB));clear HB;have HB:=n0_;have aA:=n1_;have aL:=n2_;have aF:=n3_;clear n0_ n1_ n2_ n3_;clear hb hbox hg;have bG:bQ.cell? ⟨aB,0,none⟩=some (.int .i64 aC):=(N' aA.out 0).trans rfl;have aZ:bQ.cell? ⟨aB,1,none⟩=some (.int .i64 aE):=(N' aA.out 1).trans rfl;have bC:bQ.cell? ⟨aB,2,none⟩=some (.bool aD):=(N' aA.out 2).trans rfl;have aV:=Y' aA.out 0;have aY:=Y' aA.out 1;have aN:=Y' aA.out 2)|((with_reducible refine gate_callee (f:=31) rfl ?_);refine goesL_ (some 8) rfl rfl Tryz.func31 (by kernel_rfl) rfl #[.agg #[.int .i64 aC,.int .i64 aE,.bool aD]] rfl (by(try simp only[List.map_toArray,List.map_cons,List.map_nil]);first|done|rfl|(simp only[List.length_drop,List.length_take];rfl)) ?_;(with_reducible refine(impl_ValidPurchase.calls k aC aE aD false _ A3.out).mono ?_);rintro e cC ⟨rfl,hb⟩;refine⟨_,rfl,?_⟩;replace aA:=A' (O' (g:=aB) (qB aA.out) hb);replace HB:=A' (W' (qK1 HB.out aF.out) hb);(try clear hb);(try clear hb2);(try clear hk);(try clear hi)));go_ret;exact⟨qE,qK1 HB.out aF.out⟩
/-! ### impl_MirrorWay: function 6 -/
def impl_MirrorWay.l0:Nat→List (S51)→List (S51)→Int→Int→Int→Int→Bool→Option ((List (S51))×Int)
 |0,_,_,_,_,_,_,_=>none
 |k+1,x7,aE,aG,aD,aB,aA,aC=>if aD<aG then(if 0≤aD then(if aD<(aE.length:Int)then((impl_sheavesAt.f aB aA aC ((rd_T51 aE aD).f0)).bind fun aF=>(if x7.length<8796093022208 then(impl_MirrorWay.l0 k (x7 ++ [(⟨(rd_T51 aE aD).f0,wrap64 ((wrap64 (aF - 1)) - ((rd_T51 aE aD).f1))⟩:S51)]) aE aG (wrap64 (aD+1)) aB aA aC)else(none)))else(none))else(none))else(some (x7,0))
def impl_MirrorWay.f (k:Nat) (aA:Int) (aB:Int) (aC:Bool) (l1:List (S51)):Option ((List (S51))×Int):=(impl_wayCode.f k aA aB aC l1).bind fun aD=>(if aD=0 then(impl_MirrorWay.l0 k (([]:List (S51))) l1 (l1.length:Int) 0 aA aB aC)else(some (([]:List (S51)),aD)))
theorem impl_MirrorWay.mono_l: ∀k,(∀y0 y1 y2 y3 y4 y5 y6,LeO (impl_MirrorWay.l0 k y0 y1 y2 y3 y4 y5 y6) (impl_MirrorWay.l0 (k+1) y0 y1 y2 y3 y4 y5 y6))
 |0=>fun _ _ _ _ _ _ _ r h=>by simp[impl_MirrorWay.l0]at h
 |k+1=>by
  have aA:=impl_MirrorWay.mono_l k
  ·intro y0 y1 y2 y3 y4 y5 y6
   unfold impl_MirrorWay.l0
   repeat' first
   |(with_reducible exact aA _ _ _ _ _ _ _)
   |(with_reducible exact impl_wayCode.mono _ _ _ _ _)
   |(with_reducible exact LeO.refl _)
   |(with_reducible exact LeO.none _)
   |(with_reducible refine LeO.ite ?_ ?_)
   |(with_reducible refine LeO.bind ?_ (fun _=>?_))
   |exact LeO.none _
   |refine LeO.ite ?_ ?_
   |refine LeO.bind ?_ (fun _=>?_)
theorem impl_MirrorWay.mono: ∀a0 a1 a2 a3 k,LeO (impl_MirrorWay.f k a0 a1 a2 a3) (impl_MirrorWay.f (k+1) a0 a1 a2 a3):=by
 intro a0 a1 a2 a3 k
 have aA:=impl_MirrorWay.mono_l k
 unfold impl_MirrorWay.f
 repeat' first
   |(with_reducible exact aA _ _ _ _ _ _ _)
   |(with_reducible exact impl_wayCode.mono _ _ _ _ _)
   |(with_reducible exact LeO.refl _)
   |(with_reducible exact LeO.none _)
   |(with_reducible refine LeO.ite ?_ ?_)
   |(with_reducible refine LeO.bind ?_ (fun _=>?_))
   |exact LeO.none _
   |refine LeO.ite ?_ ?_
   |refine LeO.bind ?_ (fun _=>?_)
def impl_MirrorWay.T8:Bool×List (List Nat×List Nat):=(true,[([],[]),([],[]),([1],[1]),([],[]),([],[]),([4],[4]),([3,5],[3,5]),([6],[6]),([],[]),([8],[8]),([7,9],[7,9]),([2,10],[2,10]),([11],[11]),([0,12,6],[0,12]),([13,13,0,1,2,3,4,5,6,7,8,9,10,11,12,13],[0,13])])
def impl_MirrorWay.B8:List Nat:=[0,0,2,0,0,16,56,120,0,256,1016,2046,4094,8191,16383]
theorem impl_MirrorWay.tab8:rtab .any (opsOf Tryz.f6 8)=impl_MirrorWay.T8:=by kernel_rfl
theorem impl_MirrorWay.bits8:waitsOk impl_MirrorWay.T8.2 impl_MirrorWay.B8=true:=by kernel_rfl
set_option maxHeartbeats 8000000 in
set_option maxRecDepth 100000 in
theorem impl_MirrorWay.calls (k:Nat) (aJ:Int) (aI:Int) (aK:Bool) (A1:Option Addr) (c1:Nat) (l1:List (S51)) (r1:List (S51)) (r2:Int) (w:World) (cI:Kd.C k51 w A1 l1.length l1) (cP:l1.length≤c1) (h:impl_MirrorWay.f k aJ aI aK l1=some (r1,r2)):
  Calls Tryz.prog 6 #[.agg #[.int .i64 aJ,.int .i64 aI,.bool aK],.slice A1 l1.length c1] w fun e w'=>∃v0_:Value,e= .returned (.tuple #[v0_,.int .i64 r2])∧Kd.R k51 51 w' w.heap.size (fun _=>True) v0_ r1∧Below w.heap.size w w':=by
 have cX:=Tryz.underlying25;have cU:=Tryz.underlying51;have cH:=A' cI;have cO:=A' cP;clear cI cP;have HB:=A' (Below.refl w.heap.size w);have H:((impl_wayCode.f k aJ aI aK l1).bind fun aN=>(if aN=0 then(impl_MirrorWay.l0 k (([]:List (S51))) l1 (l1.length:Int) 0 aJ aI aK)else(some (([]:List (S51)),aN))))=some (r1,r2):=h;clear h;replace H:=Option.bind_eq_some_iff.mp H;obtain⟨aN,cJ,H⟩:=H;replace H:(if aN=0 then(impl_MirrorWay.l0 k (([]:List (S51))) l1 (l1.length:Int) 0 aJ aI aK)else(some (([]:List (S51)),aN)))=some (r1,r2):=H;have A3:=A' cJ;clear cJ
 by_cases c4:aN=0
 ·rw[if_pos c4]at H;have c4b0:(aN == 0)=true:=beq_iff_eq.mpr c4;have c4b1:(aN != 0)=false:=bne_eq_false_iff_eq.mpr c4;clear c4;obtain⟨bL,aU⟩: ∃y_:List (S51),y_=(([]:List (S51))):=⟨_,rfl⟩
  replace H:(impl_MirrorWay.l0 k bL l1 (l1.length:Int) 0 aJ aI aK)=some (r1,r2):=by first|(rw[aU];with_reducible exact H)|(have H2_:=(Option.bind_some _ _).symm.trans H;rw[aU];with_reducible exact H2_)|(have H2_:=(Option.bind_some _ _).symm.trans H;with_reducible exact H2_)|with_reducible exact H|(rw[aU];exact H)|exact H
  have bB:=A' aU;clear aU;have H':=A' H;clear H;go_enter Tryz.func6,Tryz.ntmps6;go_wp2_with (first|((with_reducible refine gate_dst (N:=2) rfl ?_);refine box_event ?hg (N:=2) ?hd (cs:=#[.int .i64 aJ,.int .i64 aI,.bool aK]) (t:=25) ?hr ?_;(case hd=>rfl);(case hg=>rfl);(case hr=>first|(go_simp;done)|(go_simp;rfl));intro aE hg w5 hbox hb;have n0_:=A' (W' (qK0 HB.out) hb);have n1_:=A' (hbox);have n2_:=A' ((by rw[hg];exact(V' (qK0 HB.out)):w.heap.size≤aE));have n3_:=A' ((by rw[hg];exact(V' (qK0 HB.out)):w.heap.size≤aE));clear HB;have HB:=n0_;have aA:=n1_;have bM:=n2_;have aH:=n3_;clear n0_ n1_ n2_ n3_;clear hb hbox hg;have bE:w5.cell? ⟨aE,0,none⟩=some (.int .i64 aJ):=(N' aA.out 0).trans rfl;have bI:w5.cell? ⟨aE,1,none⟩=some (.int .i64 aI):=(N' aA.out 1).trans rfl;have bK:w5.cell? ⟨aE,2,none⟩=some (.bool aK):=(N' aA.out 2).trans rfl;have bD:=Y' aA.out 0;have bG:=Y' aA.out 1;have bF:=Y' aA.out 2)|((with_reducible refine gate_callee (f:=27) rfl ?_);refine goesL_ (some 12) rfl rfl Tryz.func27 (by kernel_rfl) rfl #[.agg #[.int .i64 aJ,.int .i64 aI,.bool aK],.slice A1 l1.length c1] rfl (by(try simp only[List.map_toArray,List.map_cons,List.map_nil]);first|done|rfl|(simp only[List.length_drop,List.length_take];rfl)) ?_;(with_reducible refine(impl_wayCode.calls k aJ aI aK _ _ l1 aN _ ?bA ?aZ A3.out).mono ?_);(case bA=>exact qT (X' cH.out HB.out));(case aZ=>exact cO.out);rintro e w7 ⟨rfl,hb⟩;refine⟨_,rfl,?_⟩;replace aA:=A' (O' (g:=aE) (qB aA.out) hb);replace HB:=A' (W' (qK1 HB.out aH.out) hb);(try clear hb);(try clear hb2);(try clear hk);(try clear hi))|((with_reducible refine gate_dst (N:=16) rfl ?_);refine Kd.R_lit k51 _ 51 ?hg (N:=16) ?hd (xs:=([]:List (S51))) (inner:=[]) (ok:=fun _=>True) (okp:=fun _=>True) ?hr ?hp (fun _ hk=>hk) trivial (Below.refl _ _) (Nat.le_refl _) (by simp) ?_;(case hd=>rfl);(case hg=>rfl);(case hr=>first|(go_simp;done)|(go_simp;rfl));(case hp=>exact(Reps.none _ _));intro cW w8 bQ hb hg_ hnew_;clear hg_ hnew_;(first|rw[← bB.out]at bQ|(simp only[Int.reduceToNat]at bQ;rw[← bB.out]at bQ));have n0_:=A' (Kd.R_lower bQ (V' (qK1 HB.out aH.out)));have n1_:=A' (O' (g:=aE) (qB aA.out) hb);have n2_:=A' (W' (qK1 HB.out aH.out) hb);clear aA;clear HB;have bP:=n0_;have aA:=n1_;have HB:=n2_;clear n0_ n1_ n2_;clear hb bQ))
  go_loopg [7,19] k (fun kq v7 cV w'=>∃(aQ:List (S51)) (aC:Int),cV= .int .i64 aC∧Aside0 (impl_MirrorWay.l0 kq aQ l1 (l1.length:Int) aC aJ aI aK=some (r1,r2))∧Aside0 (kq≤k)∧Aside0 (Kd.R k51 51 w' w.heap.size (fun _=>True) v7 aQ)∧Aside0 (w'.heap[aE]? =some (.cells #[.int .i64 aJ,.int .i64 aI,.bool aK] 25 (0,0)))∧Aside0 (Below w.heap.size w w'))
  case atStart=>exact⟨(bL),(0),qS,H',⟨Nat.le_refl _⟩,⟨qR bP.out⟩,⟨qB aA.out⟩,⟨qK1 HB.out aH.out⟩⟩
  case round=>
   clear H';try clear c1
   try clear c2
   try clear p2
   try clear c4
   try clear c4b0
   try clear c4b1
   try clear c6
   try clear bE
   try clear bI
   try clear bK
   try clear bD
   try clear bG
   try clear bF
   obtain⟨aQ,aC,rfl,HA,cQ,HO_7,aA,HB⟩:=hrel
   cases gk with
   |zero=>exact absurd HA.out (by simp[impl_MirrorWay.l0])
   |succ k1=>
    have H:=HA.out;clear HA;simp only[impl_MirrorWay.l0]at H
    by_cases c10:aC<(l1.length:Int)
    ·rw[if_pos c10]at H;have c10b0:decide (aC<(l1.length:Int))=true:=dT' c10;clear c10
     by_cases c11:0≤aC
     ·rw[if_pos c11]at H;have c11b0:decide (0≤aC)=true:=dT' c11;clear c11
      by_cases c12:aC<(l1.length:Int)
      ·rw[if_pos c12]at H;have c12b0:decide (aC<(l1.length:Int))=true:=dT' c12;clear c12;replace H:=Option.bind_eq_some_iff.mp H;obtain⟨aX,bT,H⟩:=H;replace H:(if aQ.length<8796093022208 then(impl_MirrorWay.l0 k1 (aQ ++ [(⟨(rd_T51 l1 aC).f0,wrap64 ((wrap64 (aX - 1)) - ((rd_T51 l1 aC).f1))⟩:S51)]) l1 (l1.length:Int) (wrap64 (aC+1)) aJ aI aK)else(none))=some (r1,r2):=H;have cR:=A' bT;clear bT
       by_cases c14:aQ.length<8796093022208
       ·rw[if_pos c14]at H;have bN:=A' c14;clear c14;obtain⟨bS,aR⟩: ∃y_:List (S51),y_=(aQ ++ [(⟨(rd_T51 l1 aC).f0,wrap64 ((wrap64 (aX - 1)) - ((rd_T51 l1 aC).f1))⟩:S51)]):=⟨_,rfl⟩
        replace H:(impl_MirrorWay.l0 k1 bS l1 (l1.length:Int) (wrap64 (aC+1)) aJ aI aK)=some (r1,r2):=by first|(rw[aR];with_reducible exact H)|(have H2_:=(Option.bind_some _ _).symm.trans H;rw[aR];with_reducible exact H2_)|(have H2_:=(Option.bind_some _ _).symm.trans H;with_reducible exact H2_)|with_reducible exact H|(rw[aR];exact H)|exact H
        have bR:=A' aR;clear aR;have H':=A' H;clear H;have bH:0≤(aC:Int):=oD' qA;have bC:aC<(l1.length:Int):=oD' qA;obtain⟨cK,cF,aV,aW⟩:=at_T51 cH.out aC bH bC
        cases cF
        try replace aV:=qC HB.out aV
        try replace aW:=qC HB.out aW
        replace bH:=eq_true bH;replace bC:=eq_true bC;try go_wp2_with (first|((with_reducible refine gate_dst (N:=9) rfl ?_);refine box_event ?hg (N:=9) ?hd (cs:=#[.int .i64 0,.int .i64 0]) (t:=51) ?hr ?_;(case hd=>rfl);(case hg=>rfl);(case hr=>first|(go_simp;done)|(go_simp;rfl));intro aD hg bJ hbox hb;have n0_:=A' (L' (Kd.R_elderB (qR HO_7.out) aD (Nat.le_of_eq hg.symm)) hb);have n1_:=A' (O' (g:=aE) (qB aA.out) hb);have n2_:=A' (W' (qK1 HB.out aH.out) hb);have n3_:=A' (hbox);have n4_:=A' ((by rw[hg];exact(V' (qK1 HB.out aH.out)):w.heap.size≤aD));have n5_:=A' ((by rw[hg];exact(V' (qK1 HB.out aH.out)):w.heap.size≤aD));have n6_:=A' ((by rw[hg];exact Nat.ne_of_lt (bL' (g:=aE) (qB aA.out)):aE≠aD));have n7_:=A' ((by rw[hg];exact Nat.ne_of_gt (bL' (g:=aE) (qB aA.out)):aD≠aE));clear HO_7;clear aA;clear HB;have HO_7:=n0_;have aA:=n1_;have HB:=n2_;have aG:=n3_;have cN:=n4_;have aT:=n5_;have aM:=n6_;have aY:=n7_;clear n0_ n1_ n2_ n3_ n4_ n5_ n6_ n7_;clear hb hbox hg;have cM:=aY.out;have cL:=aM.out;have cA:bJ.cell? ⟨aD,0,none⟩=some (.int .i64 0):=(N' aG.out 0).trans rfl;have bW:bJ.cell? ⟨aD,1,none⟩=some (.int .i64 0):=(N' aG.out 1).trans rfl;have cE:=Y' aG.out 0;have bZ:=Y' aG.out 1))
        have n0_:Aside0 (Kd.R k51 51 ((bJ.setCell ⟨aD,0,none⟩ (.int .i64 ((rd_T51 l1 aC).f0))).setCell ⟨aD,1,none⟩ (.int .i64 ((rd_T51 l1 aC).f1))) w.heap.size (fun k_=>k_≠aD) u7 aQ):=⟨by(with_reducible repeat(first|apply B'|apply C'|apply D'));exact Q' (M' (p:=⟨aD,1,none⟩) (M' (p:=⟨aD,0,none⟩) (Q' HO_7.out (fun k_ hk=>(⟨hk,hk.2⟩:_∧k_≠aD))) (fun _ hk=>hk.2) (.int .i64 ((rd_T51 l1 aC).f0))) (fun _ hk=>hk.2) (.int .i64 ((rd_T51 l1 aC).f1))) (fun _ hk=>hk.1.2)⟩
        have n1_:Aside0 (((bJ.setCell ⟨aD,0,none⟩ (.int .i64 ((rd_T51 l1 aC).f0))).setCell ⟨aD,1,none⟩ (.int .i64 ((rd_T51 l1 aC).f1))).heap[aE]? =some (.cells #[.int .i64 aJ,.int .i64 aI,.bool aK] 25 (0,0))):=⟨qG2 aA.out aM.out aM.out⟩
        have n2_:Aside0 (((bJ.setCell ⟨aD,0,none⟩ (.int .i64 ((rd_T51 l1 aC).f0))).setCell ⟨aD,1,none⟩ (.int .i64 ((rd_T51 l1 aC).f1))).heap[aD]? =some (.cells #[.int .i64 ((rd_T51 l1 aC).f0),.int .i64 ((rd_T51 l1 aC).f1)] 51 (0,0))):=⟨by(with_reducible repeat(first|refine G' ?_ _|refine I' ?_|refine hA' ?_ _));refine blk_put (cs:=#[.int .i64 ((rd_T51 l1 aC).f0),.int .i64 0]) ?_ 1 _ rfl;(with_reducible repeat(first|refine G' ?_ _|refine I' ?_|refine hA' ?_ _));refine blk_put (cs:=#[.int .i64 0,.int .i64 0]) ?_ 0 _ rfl;(with_reducible repeat(first|refine G' ?_ _|refine I' ?_|refine hA' ?_ _));exact aG.out⟩
        have n3_:Aside0 (Below w.heap.size w ((bJ.setCell ⟨aD,0,none⟩ (.int .i64 ((rd_T51 l1 aC).f0))).setCell ⟨aD,1,none⟩ (.int .i64 ((rd_T51 l1 aC).f1)))):=⟨qK2 HB.out aH.out aT.out⟩
        (try clear HO_7);(try clear aA);(try clear aG);(try clear HB)
        generalize ((bJ.setCell ⟨aD,0,none⟩ (.int .i64 ((rd_T51 l1 aC).f0))).setCell ⟨aD,1,none⟩ (.int .i64 ((rd_T51 l1 aC).f1)))=cT at n0_ n1_ n2_ n3_ ⊢
        have HO_7:=n0_;have aA:=n1_;have aG:=n2_;have HB:=n3_;clear n0_ n1_ n2_ n3_;replace HO_7:=A' (D' HO_7.out);replace aA:=A' (I' aA.out);replace aG:=A' (I' aG.out);replace HB:=A' (J' HB.out);refine start_ (n:=15) (S:=fun w'=>w'.cell? ⟨aD,0,none⟩=some (.int .i64 ((rd_T51 l1 aC).f0))∧w'.cell? ⟨aD,1,none⟩=some (.int .i64 ((rd_T51 l1 aC).f1))∧w'.cell? ⟨aE,0,none⟩=some (.int .i64 aJ)∧w'.cell? ⟨aE,1,none⟩=some (.int .i64 aI)∧w'.cell? ⟨aE,2,none⟩=some (.bool aK)) (ds:=[]) #[n',n',n',n',n',n',n',n',n',n',n',n',n',n',n'] (by kernel_rfl) rfl rfl ⟨(N' aG.out 0).trans rfl,(N' aG.out 1).trans rfl,(N' aA.out 0).trans rfl,(N' aA.out 1).trans rfl,(N' aA.out 2).trans rfl⟩ (fun hHeld=>?_);refine with_tabW impl_MirrorWay.tab8 impl_MirrorWay.bits8 (fun HT_ HW_=>?_)
        generalize cT.drew=w19 at HO_7 aA aG HB hHeld ⊢
        refine pure_ (i:=0) (N:=some 23) (v:=?_) (a':=?_) #[y',n',n',n',n',n',n',n',n',n',n',n',n',n',n'] rfl rfl (any_of HT_.out (by kernel_rfl)) (fun _ _ _ h=>h) (Or.inl ⟨by rfl,?_⟩) ?_ ?_;rotate_left
        ·exact qI
        rotate_left
        ·exact qP
        refine pure_ (i:=1) (N:=some 24) (v:=?_) (a':=?_) #[y',y',n',n',n',n',n',n',n',n',n',n',n',n',n'] rfl rfl (any_of HT_.out (by kernel_rfl)) (fun _ _ _ h=>h) (Or.inl ⟨by rfl,?_⟩) ?_ ?_;rotate_left
        ·exact qI
        rotate_left
        ·exact qP
        refine pure_ (i:=4) (N:=some 27) (v:=?_) (a':=?_) #[y',y',n',n',y',n',n',n',n',n',n',n',n',n',n'] rfl rfl (any_of HT_.out (by kernel_rfl)) (fun _ _ _ h=>h) (Or.inl ⟨by rfl,?_⟩) ?_ ?_;rotate_left
        ·exact qI
        rotate_left
        ·exact qP
        refine pure_ (i:=8) (N:=some 31) (v:=?_) (a':=?_) #[y',y',n',n',y',n',n',n',y',n',n',n',n',n',n'] rfl rfl (any_of HT_.out (by kernel_rfl)) (fun _ _ _ h=>h) (Or.inl ⟨by rfl,?_⟩) ?_ ?_;rotate_left
        ·exact qI
        rotate_left
        ·exact qP
        refine take_ (i:=2) (N:=some 25) (v:=?_) (a':=?_) #[y',y',y',n',y',n',n',n',y',n',n',n',n',n',n'] rfl rfl (take_ofW HT_.out HW_.out (by kernel_rfl)) (fun _ _ _ h=>h) (Or.inl ⟨by rfl,?_⟩) hHeld ?_ ?_;rotate_left
        ·rintro w' ⟨s0,s1,s2,s3,s4⟩;go_simp;with_reducible rfl
        rotate_left
        ·exact qP
        refine take_ (i:=3) (N:=some 26) (v:=?_) (a':=?_) #[y',y',y',y',y',n',n',n',y',n',n',n',n',n',n'] rfl rfl (take_ofW HT_.out HW_.out (by kernel_rfl)) (fun _ _ _ h=>h) (Or.inl ⟨by rfl,?_⟩) hHeld ?_ ?_;rotate_left
        ·rintro w' ⟨s0,s1,s2,s3,s4⟩;go_simp;with_reducible rfl
        rotate_left
        ·exact qP
        refine take_ (i:=5) (N:=some 28) (v:=?_) (a':=?_) #[y',y',y',y',y',y',n',n',y',n',n',n',n',n',n'] rfl rfl (take_ofW HT_.out HW_.out (by kernel_rfl)) (fun _ _ _ h=>h) (Or.inl ⟨by rfl,?_⟩) hHeld ?_ ?_;rotate_left
        ·rintro w' ⟨s0,s1,s2,s3,s4⟩;go_simp;with_reducible rfl
        rotate_left
        ·exact qP
        refine take_ (i:=9) (N:=some 32) (v:=?_) (a':=?_) #[y',y',y',y',y',y',n',n',y',y',n',n',n',n',n'] rfl rfl (take_ofW HT_.out HW_.out (by kernel_rfl)) (fun _ _ _ h=>h) (Or.inl ⟨by rfl,?_⟩) hHeld ?_ ?_;rotate_left
        ·rintro w' ⟨s0,s1,s2,s3,s4⟩;go_simp;with_reducible rfl
        rotate_left
        ·exact qP
        refine one_ (i:=6) (N:=some 29) #[y',y',y',y',y',y',y',n',y',y',n',n',n',n',n'] rfl rfl (one_of HT_.out (by kernel_rfl)) (by decide) (fun K hK=>?_);refine goes_ Tryz.func28 (by kernel_rfl) rfl #[.agg #[.int .i64 aJ,.int .i64 aI,.bool aK],.int .i64 ((rd_T51 l1 aC).f0)] (by rfl) rfl rfl (by(try simp only[List.map_toArray,List.map_cons,List.map_nil]);first|done|rfl|(simp only[List.length_drop,List.length_take];rfl)) ?_
        with_reducible refine(impl_sheavesAt.calls aJ aI aK ((rd_T51 l1 aC).f0) aX _ cR.out).mono ?_
        rintro e cZ ⟨rfl,hb⟩;refine⟨_,rfl,?_⟩;replace HO_7:=A' (L' (qR HO_7.out) hb);replace aA:=A' (O' (g:=aE) (qB aA.out) hb);replace aG:=A' (O' (g:=aD) (qB aG.out) hb);replace HB:=A' (W' (qK2 HB.out aH.out aT.out) hb);(try clear hb);(try clear hb2);(try clear hk);(try clear hi);refine hK.out _ _ ⟨(N' aG.out 0).trans rfl,(N' aG.out 1).trans rfl,(N' aA.out 0).trans rfl,(N' aA.out 1).trans rfl,(N' aA.out 2).trans rfl⟩ (fun hHeld=>?_);clear hK K;refine norm_ (a':=?_) ?_ ?_;rotate_left
        ·show Act.put _ (some 29) _=_
         exact qP
        refine pure_ (i:=7) (N:=some 30) (v:=?_) (a':=?_) #[y',y',y',y',y',y',y',y',y',y',n',n',n',n',n'] rfl rfl (any_of HT_.out (by kernel_rfl)) (fun _ _ _ h=>h) (Or.inl ⟨by rfl,?_⟩) ?_ ?_;rotate_left
        ·exact qI
        rotate_left
        ·exact qP
        refine pure_ (i:=10) (N:=some 33) (v:=?_) (a':=?_) #[y',y',y',y',y',y',y',y',y',y',y',n',n',n',n'] rfl rfl (any_of HT_.out (by kernel_rfl)) (fun _ _ _ h=>h) (Or.inl ⟨by rfl,?_⟩) ?_ ?_;rotate_left
        ·exact qI
        rotate_left
        ·exact qP
        refine pure_ (i:=11) (N:=some 34) (v:=?_) (a':=?_) #[y',y',y',y',y',y',y',y',y',y',y',y',n',n',n'] rfl rfl (any_of HT_.out (by kernel_rfl)) (fun _ _ _ h=>h) (Or.inl ⟨by rfl,?_⟩) ?_ ?_;rotate_left
        ·exact qI
        rotate_left
        ·exact qP
        refine one_ (i:=12) (N:=some 35) #[y',y',y',y',y',y',y',y',y',y',y',y',y',n',n'] rfl rfl (one_of HT_.out (by kernel_rfl)) (by decide) (fun K hK=>?_);refine value_ (w1:=?_) (v:=?_) (by rfl) rfl ?_ ?_;rotate_left 2
        ·go_simp
         constructor
         ·rfl
         ·rfl
        refine hK.out _ _ ⟨(N' (hA' aG.out _) 0).trans rfl,(N' (hA' aG.out _) 1).trans rfl,(N' (hA' aA.out _) 0).trans rfl,(N' (hA' aA.out _) 1).trans rfl,(N' (hA' aA.out _) 2).trans rfl⟩ (fun hHeld=>?_);clear hK K;refine norm_ (a':=?_) ?_ ?_;rotate_left
        ·show Act.put _ (some 35) _=_
         exact qP
        refine one_ (i:=13) (N:=some 36) #[y',y',y',y',y',y',y',y',y',y',y',y',y',y',n'] rfl rfl (one_of HT_.out (by kernel_rfl)) (by decide) (fun K hK=>?_);refine Kd.R_append_step k51 (w0:=w) w.heap.size (by rfl) (.tmp 23) (.tmp 35) 26 51 (.agg #[(.int .i64 0),(.int .i64 0)]) 16 rfl Tryz.underlying26 info51 rfl (by decide) (by omega) u7 aQ (⟨(rd_T51 l1 aC).f0,wrap64 ((wrap64 (aX - 1)) - ((rd_T51 l1 aC).f1))⟩:S51) [.int .i64 ((rd_T51 l1 aC).f0),.int .i64 (wrap64 ((wrap64 (aX - 1)) - ((rd_T51 l1 aC).f1)))] (fun k_=>k_≠aD) (fun _=>False) rfl rfl ?aP (fun _ hk=>hk.elim) ?aF ?aO ?aB ?aS ?aL ?_;(case aP=>exact k51_mkM _ _ _ (⟨(rd_T51 l1 aC).f0,wrap64 ((wrap64 (aX - 1)) - ((rd_T51 l1 aC).f1))⟩:S51));(case aB=>exact(qK2 HB.out aH.out aT.out));(case aF=>exact(fun k_ hk=>Kd.freshB (g:=aD) (o:=.cells #[.int .i64 ((rd_T51 l1 aC).f0),.int .i64 ((rd_T51 l1 aC).f1)] 51 (0,0)) (qB aG.out) k_ hk));(case aO=>exact(qR HO_7.out));(case aS=>exact(V' (qK2 HB.out aH.out aT.out)));(case aL=>have:=bN.out;omega);intro cS cY ho hb hg hat;rw[← bR.out]at ho;have n0_:=A' (blk_grown (g:=aE) (o:=.cells #[.int .i64 aJ,.int .i64 aI,.bool aK] 25 (0,0)) (qB aA.out) hg (Kd.R_ne HO_7.out aA.out (by decide)));have n1_:=A' (blk_grown (g:=aD) (o:=.cells #[.int .i64 ((rd_T51 l1 aC).f0),.int .i64 ((rd_T51 l1 aC).f1)] 51 (0,0)) (qB aG.out) hg (Kd.R_away HO_7.out (fun _ hk=>hk)));have n2_:=A' (hb);have n3_:=A' (ho);clear aA;clear aG;clear HB;clear HO_7;have aA:=n0_;have aG:=n1_;have HB:=n2_;have bO:=n3_;clear n0_ n1_ n2_ n3_;clear ho hb hg hat;refine hK.out _ _ ⟨(N' aG.out 0).trans rfl,(N' aG.out 1).trans rfl,(N' aA.out 0).trans rfl,(N' aA.out 1).trans rfl,(N' aA.out 2).trans rfl⟩ (fun hHeld=>?_);clear hK K;refine norm_ (a':=?_) ?_ ?_;rotate_left
        ·show Act.put _ (some 36) _=_
         exact qP
        refine pure_ (i:=14) (N:=some 7) (v:=?_) (a':=?_) #[y',y',y',y',y',y',y',y',y',y',y',y',y',y',y'] rfl rfl (any_of HT_.out (by kernel_rfl)) (fun _ _ _ h=>h) (Or.inl ⟨by rfl,?_⟩) ?_ ?_;rotate_left
        ·exact qI
        rotate_left
        ·exact qP
        refine done_ (done_of HT_.out (by kernel_rfl)) ?_;try go_wp2
        go_roundg k1
        case measure=>have:=cQ.out;omega
        case rel=>exact⟨(bS),(wrap64 (aC+1)),qS,H',⟨by have:=cQ.out;omega⟩,⟨by(with_reducible repeat(first|apply B'|apply C'|apply D'));exact Q' bO.out (fun _ hk=>trivial)⟩,⟨qB aA.out⟩,⟨qK2 HB.out aH.out aT.out⟩⟩
       ·rw[if_neg c14]at H;exact absurd H (by simp)
      ·rw[if_neg c12]at H;exact absurd H (by simp)
     ·rw[if_neg c11]at H;exact absurd H (by simp)
    ·rw[if_neg c10]at H;have c10b0:decide (aC<(l1.length:Int))=false:=dF' c10;clear c10;simp only[Option.some.injEq,Prod.mk.injEq]at H;obtain⟨rfl,rfl⟩:=H;go_wp2;go_ret2;exact⟨_,qE,qR HO_7.out,qK1 HB.out aH.out⟩
 ·rw[if_neg c4]at H;have c4b0:(aN == 0)=false:=beq_eq_false_iff_ne.mpr c4;have c4b1:(aN != 0)=true:=bne_iff_ne.mpr c4;simp only[Option.some.injEq,Prod.mk.injEq]at H;obtain⟨rfl,rfl⟩:=H;go_enter Tryz.func6,Tryz.ntmps6;go_wp2_with (first|((with_reducible refine gate_dst (N:=2) rfl ?_);refine box_event ?hg (N:=2) ?hd (cs:=#[.int .i64 aJ,.int .i64 aI,.bool aK]) (t:=25) ?hr ?_;(case hd=>rfl);(case hg=>rfl);(case hr=>first|(go_simp;done)|(go_simp;rfl));intro aE hg cG hbox hb;have n0_:=A' (W' (qK0 HB.out) hb);have n1_:=A' (hbox);have n2_:=A' ((by rw[hg];exact(V' (qK0 HB.out)):w.heap.size≤aE));have n3_:=A' ((by rw[hg];exact(V' (qK0 HB.out)):w.heap.size≤aE));clear HB;have HB:=n0_;have aA:=n1_;have bM:=n2_;have aH:=n3_;clear n0_ n1_ n2_ n3_;clear hb hbox hg;have cD:cG.cell? ⟨aE,0,none⟩=some (.int .i64 aJ):=(N' aA.out 0).trans rfl;have cC:cG.cell? ⟨aE,1,none⟩=some (.int .i64 aI):=(N' aA.out 1).trans rfl;have bY:cG.cell? ⟨aE,2,none⟩=some (.bool aK):=(N' aA.out 2).trans rfl;have bX:=Y' aA.out 0;have bV:=Y' aA.out 1;have bU:=Y' aA.out 2)|((with_reducible refine gate_callee (f:=27) rfl ?_);refine goesL_ (some 12) rfl rfl Tryz.func27 (by kernel_rfl) rfl #[.agg #[.int .i64 aJ,.int .i64 aI,.bool aK],.slice A1 l1.length c1] rfl (by(try simp only[List.map_toArray,List.map_cons,List.map_nil]);first|done|rfl|(simp only[List.length_drop,List.length_take];rfl)) ?_;(with_reducible refine(impl_wayCode.calls k aJ aI aK _ _ l1 aN _ ?bA ?aZ A3.out).mono ?_);(case bA=>exact qT (X' cH.out HB.out));(case aZ=>exact cO.out);rintro e dA ⟨rfl,hb⟩;refine⟨_,rfl,?_⟩;replace aA:=A' (O' (g:=aE) (qB aA.out) hb);replace HB:=A' (W' (qK1 HB.out aH.out) hb);(try clear hb);(try clear hb2);(try clear hk);(try clear hi)));go_ret2;exact⟨_,qE,by first|exact Kd.R_nil _ _ _ _ _|exact Kd.N_nil _ _ _ _ _|exact Kd.V_nil _ _ _ _ _|exact Kd.Q_nil _ _ _ _ _|exact Kd.S_nil _ _ _ _ _,qK1 HB.out aH.out⟩
/-! ### spec_l07Many: function 30 -/
def spec_l07Many.f (aB:Int) (aA:Int) (aC:Bool) (a1:Int):Option (Int×Int×Int×Bool):=if a1=0 then(some (aB,aB,aA,aC))else(some (aA,aB,aA,aC))
theorem qZ4_0 {p q:Prop} (h:q) (f:q→p:=by intro h_;repeat(first|(with_reducible first|exact h_|apply IsS25.alloc|apply IsS25.drewN|apply IsS25.drew|apply IsS25.set_0|apply IsS25.set_1|apply IsS25.set_2)|exact h_)):p:=f h
theorem qZ4_1 {p q r0:Prop} (h:q) (g0:r0) (f:q→r0→p:=by intro h_ g0_;repeat(first|(with_reducible first|exact h_|apply below_alloc|apply pw_below_drewN|apply below_drew1|refine below_set ?_ g0_)|exact h_)):p:=f h g0
theorem qZ4_2 {p q:Prop} (h:q) (f:q→p:=by intro h_;repeat(first|(with_reducible first|exact h_|apply KeepBut.set_|apply keep_drewN|apply keep_drew|apply keep_alloc)|exact h_)):p:=f h
set_option maxHeartbeats 8000000 in
set_option maxRecDepth 100000 in
theorem spec_l07Many.calls (g:Nat) (aD:Int) (aC:Int) (aE:Bool) (a1:Int) (r1:Int) (r2:Int) (r3:Int) (r4:Bool) (w0 w:World) (hI:IsS25 w0 w g aD aC aE) (hB:Below w0.heap.size w0 w) (h:spec_l07Many.f aD aC aE a1=some (r1,r2,r3,r4)):
    Calls Tryz.prog 30 #[.pointer (some ⟨g,0,none⟩),.int .i64 a1] w fun e w'=>e= .returned (.int .i64 r1)∧IsS25 w0 w' g r2 r3 r4∧Below w0.heap.size w0 w'∧KeepBut w w' g none:=by
  have aF:=Aside0.mk hI
  have HK:=Aside0.mk (KeepBut.refl w g none)
  have HL:=Aside0.mk hB.size
  clear hI
  have aU:=Aside0.mk hB.size
  have HB:=Aside0.mk hB
  clear hB
  have H:(if a1=0 then(some (aD,aD,aC,aE))else(some (aC,aD,aC,aE)))=some (r1,r2,r3,r4):=h
  clear h
  by_cases c3:a1=0
  · rw[if_pos c3]at H
    have c3b0:(a1 == 0)=true:=beq_iff_eq.mpr c3
    have c3b1:(a1 != 0)=false:=bne_eq_false_iff_eq.mpr c3
    clear c3
    simp only[Option.some.injEq,Prod.mk.injEq]at H
    obtain⟨rfl,rfl,rfl,rfl⟩:=H
    obtain⟨aA,aI⟩:=aF.out
    have aK:=cellS25_0 aA
    have aT:=cellS25_1 aA
    have aJ:=cellS25_2 aA
    have aN:=blk_frozen aA 0
    have aQ:=blk_frozen aA 1
    have aL:=blk_frozen aA 2
    clear aA aI
    go_enter Tryz.func30,Tryz.ntmps30
    go_wp2
    go_ret
    exact⟨by first|rfl|(simp[errW_none,errW_some] <;> rfl)|(simp[*,errW_none,errW_some] <;> rfl),qZ4_0 aF.out,qZ4_1 HB.out (IsS25.ge aF.out),qZ4_2 HK.out⟩
  · rw[if_neg c3]at H
    have c3b0:(a1 == 0)=false:=beq_eq_false_iff_ne.mpr c3
    have c3b1:(a1 != 0)=true:=bne_iff_ne.mpr c3
    simp only[Option.some.injEq,Prod.mk.injEq]at H
    obtain⟨rfl,rfl,rfl,rfl⟩:=H
    obtain⟨aB,aO⟩:=aF.out
    have aP:=cellS25_0 aB
    have aR:=cellS25_1 aB
    have aM:=cellS25_2 aB
    have aH:=blk_frozen aB 0
    have aS:=blk_frozen aB 1
    have aG:=blk_frozen aB 2
    clear aB aO
    go_enter Tryz.func30,Tryz.ntmps30
    go_wp2
    go_ret
    exact⟨by first|rfl|(simp[errW_none,errW_some] <;> rfl)|(simp[*,errW_none,errW_some] <;> rfl),qZ4_0 aF.out,qZ4_1 HB.out (IsS25.ge aF.out),qZ4_2 HK.out⟩
def spec_l07Many_at.f (aA:Int) (aB:Int) (aC:Bool) (a1:Int):Option (Int):=(spec_l07Many.f aA aB aC a1).bind fun t=>some t.1
theorem qZ4_3 {p q:Prop} (h:q) (f:q→p:=by intro h_;repeat(first|(with_reducible first|exact h_|apply AtS25.alloc|apply AtS25.drewN|apply AtS25.drew)|exact h_)):p:=f h
theorem qZ4_4 {p q:Prop} (h:q) (f:q→p:=by intro h_;repeat(first|(with_reducible first|exact h_|apply below_alloc|apply pw_below_drewN|apply below_drew1)|exact h_)):p:=f h
set_option maxHeartbeats 8000000 in
set_option maxRecDepth 100000 in
theorem spec_l07Many_atc.calls (a_:Addr) (aB:Int) (aA:Int) (aC:Bool) (a1:Int) (r1:Int) (r2:Int) (r3:Int) (r4:Bool) (w0 w:World) (hI:AtS25 w0 w a_ aB aA aC) (hB:Below w0.heap.size w0 w) (h:spec_l07Many.f aB aA aC a1=some (r1,r2,r3,r4)):
    Calls Tryz.prog 30 #[.pointer (some a_),.int .i64 a1] w fun e w'=>e= .returned (.int .i64 r1)∧AtS25 w0 w' a_ r2 r3 r4∧Below w0.heap.size w0 w'∧KeepBut w w' a_.block none:=by
  have aD:=Aside0.mk hI
  have HK:=Aside0.mk (KeepBut.refl w a_.block none)
  have HL:=Aside0.mk hB.size
  clear hI
  have aK:=Aside0.mk hB.size
  have HB:=Aside0.mk hB
  clear hB
  have H:(if a1=0 then(some (aB,aB,aA,aC))else(some (aA,aB,aA,aC)))=some (r1,r2,r3,r4):=h
  clear h
  by_cases c3:a1=0
  · rw[if_pos c3]at H
    have c3b0:(a1 == 0)=true:=beq_iff_eq.mpr c3
    have c3b1:(a1 != 0)=false:=bne_eq_false_iff_eq.mpr c3
    clear c3
    simp only[Option.some.injEq,Prod.mk.injEq]at H
    obtain⟨rfl,rfl,rfl,rfl⟩:=H
    obtain⟨aG,aI,aF⟩:=aD.out
    go_enter Tryz.func30,Tryz.ntmps30
    go_wp2
    go_ret
    exact⟨by first|rfl|(simp[errW_none,errW_some] <;> rfl)|(simp[*,errW_none,errW_some] <;> rfl),qZ4_3 aD.out,qZ4_4 HB.out,qZ4_2 HK.out⟩
  · rw[if_neg c3]at H
    have c3b0:(a1 == 0)=false:=beq_eq_false_iff_ne.mpr c3
    have c3b1:(a1 != 0)=true:=bne_iff_ne.mpr c3
    simp only[Option.some.injEq,Prod.mk.injEq]at H
    obtain⟨rfl,rfl,rfl,rfl⟩:=H
    obtain⟨aE,aH,aJ⟩:=aD.out
    go_enter Tryz.func30,Tryz.ntmps30
    go_wp2
    go_ret
    exact⟨by first|rfl|(simp[errW_none,errW_some] <;> rfl)|(simp[*,errW_none,errW_some] <;> rfl),qZ4_3 aD.out,qZ4_4 HB.out,qZ4_2 HK.out⟩
theorem spec_l07Many_at.calls (a_:Addr) (aA:Int) (aB:Int) (aC:Bool) (a1:Int) (r1:Int) (w:World) (hI:AtS25 w w a_ aA aB aC) (h:spec_l07Many_at.f aA aB aC a1=some r1):
    Calls Tryz.prog 30 #[.pointer (some a_),.int .i64 a1] w fun e w'=>e= .returned (.int .i64 r1)∧Below w.heap.size w w':=by
  obtain⟨⟨q0,s0,s1,s2⟩,ht,h⟩:=Option.bind_eq_some_iff.mp h
  simp only[Option.some.injEq]at h
  obtain rfl:=h
  refine(spec_l07Many_atc.calls a_ aA aB aC a1 _ _ _ _ w w hI (Below.refl _ _) ht).mono ?_
  rintro e w' ⟨he,_,hb,_⟩
  exact⟨he,hb⟩
end Go.Proofs.YtifdihbndlmgpaaGreatDoor.HWys
