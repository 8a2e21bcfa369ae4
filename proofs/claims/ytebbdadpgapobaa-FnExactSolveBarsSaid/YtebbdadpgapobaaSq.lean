/- Short names for words and phrases that the printed texts spell often. No condition. -/
import Derived.Test.YtebbdadpgapobaaVWords
import Derived.Test.YtebbdadpgapobaaVLast
import Derived.Test.YtebbdadpgapobaaVTab
import Derived.Test.YtebbdadpgapobaaVMore
import Derived.Test.YtebbdadpgapobaaVN
import Derived.Test.YtebbdadpgapobaaVApart
import Derived.Test.YtebbdadpgapobaaVFour
import Derived.Test.YtebbdadpgapobaaVKept
import Derived.Test.YtebbdadpgapobaaVShare
import Derived.Test.YtebbdadpgapobaaVNEv
import Derived.Test.YtebbdadpgapobaaVGuard
import Derived.Test.YtebbdadpgapobaaVAt
import Derived.Below
import Derived.WalkKit
import Derived.Deep.Draws
namespace Go.Proofs.Ytebbdadpgapobaa
open Go.RowKit Go.Proofs.YtebbdadpgapobaaW.PrintWords Go.Proofs.YtebbdadpgapobaaW.PrintLast Go.Proofs.YtebbdadpgapobaaW.PrintMore
@[reducible] def y':Bool:=true
@[reducible] def n':Bool:=false
theorem z1' {α:Type} (l:List α) (i:Nat) (a:α):l.toArray.setIfInBounds i a=(l.set i a).toArray:=List.setIfInBounds_toArray ..
theorem z2' {α:Type} (a b:α) (l:List α):(a :: l).set 0 b=b :: l:=rfl
theorem z3' {α:Type} (a b:α) (l:List α) (n:Nat):(a :: l).set (n+1) b=a :: l.set n b:=rfl
def rb (n m:Nat):Array Bool:=((List.range n).map fun i=>m.testBit i).toArray
theorem A':type_of% @Aside0.mk:=@Aside0.mk
theorem B':type_of% @Kd.R_alloc:=@Kd.R_alloc
theorem C':type_of% @Kd.R_drewN:=@Kd.R_drewN
theorem D':type_of% @Kd.R_drew:=@Kd.R_drew
theorem E':type_of% @below_set:=@below_set
theorem F':type_of% @pw_below_drewN:=@pw_below_drewN
theorem G':type_of% @blk_drewN:=@blk_drewN
theorem hA':type_of% @blk_alloc:=@blk_alloc
theorem I':type_of% @blk_drew:=@blk_drew
theorem J':type_of% @below_drew1:=@below_drew1
theorem K':type_of% @below_alloc:=@below_alloc
theorem L':type_of% @Kd.R_below:=@Kd.R_below
theorem M':type_of% @Kd.R_far:=@Kd.R_far
theorem N':type_of% @blk_cell:=@blk_cell
theorem O':type_of% @blk_below:=@blk_below
theorem P':type_of% @Kd.R_types:=@Kd.R_types
theorem Q':type_of% @Kd.R_mono:=@Kd.R_mono
theorem R':type_of% @Kd.C_alloc:=@Kd.C_alloc
theorem S':type_of% @Kd.C_drewN:=@Kd.C_drewN
theorem T':type_of% @Kd.C_drew:=@Kd.C_drew
theorem U':type_of% @Kd.R_new':=@Kd.R_new'
theorem V':type_of% @below_size:=@below_size
theorem W':type_of% @below_step:=@below_step
theorem X':type_of% @Kd.C_below:=@Kd.C_below
theorem Y':type_of% @blk_frozen:=@blk_frozen
theorem Z':type_of% @cell_far:=@cell_far
theorem bE':type_of% @Option.bind_eq_some_iff:=@Option.bind_eq_some_iff
theorem dT':type_of% @decide_eq_true:=@decide_eq_true
theorem dF':type_of% @decide_eq_false:=@decide_eq_false
theorem oD':type_of% @of_decide_eq_true:=@of_decide_eq_true
theorem bF':type_of% @blk_far:=@blk_far
theorem bL':type_of% @blk_lt:=@blk_lt
theorem qF {w:World} {a:Addr} {v:Value} {g:Nat} {p:Prop} (h:w.cell? a=some v) (k:w.heap.size≤g) (f:w.cell? a=some v→w.heap.size≤g→p:=by intro h_ g_;first|exact Nat.ne_of_lt (Nat.lt_of_lt_of_le (by have:=World.block_lt_of_cell? _ _ h_;first|rwa [add_block]at this|exact this) g_)|(rw[add_block];exact Nat.ne_of_lt (Nat.lt_of_lt_of_le (by have:=World.block_lt_of_cell? _ _ h_;first|rwa [add_block]at this|exact this) g_))|(show(Addr.add _ _).block≠_;rw[add_block];exact Nat.ne_of_lt (Nat.lt_of_lt_of_le (by have:=World.block_lt_of_cell? _ _ h_;first|rwa [add_block]at this|exact this) g_))|(dsimp only;exact Nat.ne_of_lt (Nat.lt_of_lt_of_le (by have:=World.block_lt_of_cell? _ _ h_;first|rwa [add_block]at this|exact this) g_))):p:=f h k
theorem qB {p q:Prop} (h:q) (f:q→p:=by intro h_;(with_reducible repeat(first|refine blk_drewN ?_ _|refine blk_drew ?_|refine blk_alloc ?_ _));exact h_):p:=f h
theorem qR {p q:Prop} (h:q) (f:q→p:=by intro h_;(with_reducible repeat(first|apply Kd.R_alloc|apply Kd.R_drewN|apply Kd.R_drew));exact h_):p:=f h
theorem qK0 {p q:Prop} (h:q) (f:q→p:=by intro h_;repeat(first|(with_reducible first|exact h_|apply below_alloc|apply pw_below_drewN|apply below_drew1)|exact h_)):p:=f h
theorem qK1 {p q r0:Prop} (h:q) (g0:r0) (f:q→r0→p:=by intro h_ g0_;repeat(first|(with_reducible first|exact h_|apply below_alloc|apply pw_below_drewN|apply below_drew1|refine below_set ?_ g0_)|exact h_)):p:=f h g0
theorem qK2 {p q r0 r1:Prop} (h:q) (g0:r0) (g1:r1) (f:q→r0→r1→p:=by intro h_ g0_ g1_;repeat(first|(with_reducible first|exact h_|apply below_alloc|apply pw_below_drewN|apply below_drew1|refine below_set ?_ g0_|refine below_set ?_ g1_)|exact h_)):p:=f h g0 g1
theorem qK3 {p q r0 r1 r2:Prop} (h:q) (g0:r0) (g1:r1) (g2:r2) (f:q→r0→r1→r2→p:=by intro h_ g0_ g1_ g2_;repeat(first|(with_reducible first|exact h_|apply below_alloc|apply pw_below_drewN|apply below_drew1|refine below_set ?_ g0_|refine below_set ?_ g1_|refine below_set ?_ g2_)|exact h_)):p:=f h g0 g1 g2
theorem qK4 {p q r0 r1 r2 r3:Prop} (h:q) (g0:r0) (g1:r1) (g2:r2) (g3:r3) (f:q→r0→r1→r2→r3→p:=by intro h_ g0_ g1_ g2_ g3_;repeat(first|(with_reducible first|exact h_|apply below_alloc|apply pw_below_drewN|apply below_drew1|refine below_set ?_ g0_|refine below_set ?_ g1_|refine below_set ?_ g2_|refine below_set ?_ g3_)|exact h_)):p:=f h g0 g1 g2 g3
theorem qK5 {p q r0 r1 r2 r3 r4:Prop} (h:q) (g0:r0) (g1:r1) (g2:r2) (g3:r3) (g4:r4) (f:q→r0→r1→r2→r3→r4→p:=by intro h_ g0_ g1_ g2_ g3_ g4_;repeat(first|(with_reducible first|exact h_|apply below_alloc|apply pw_below_drewN|apply below_drew1|refine below_set ?_ g0_|refine below_set ?_ g1_|refine below_set ?_ g2_|refine below_set ?_ g3_|refine below_set ?_ g4_)|exact h_)):p:=f h g0 g1 g2 g3 g4
theorem qK6 {p q r0 r1 r2 r3 r4 r5:Prop} (h:q) (g0:r0) (g1:r1) (g2:r2) (g3:r3) (g4:r4) (g5:r5) (f:q→r0→r1→r2→r3→r4→r5→p:=by intro h_ g0_ g1_ g2_ g3_ g4_ g5_;repeat(first|(with_reducible first|exact h_|apply below_alloc|apply pw_below_drewN|apply below_drew1|refine below_set ?_ g0_|refine below_set ?_ g1_|refine below_set ?_ g2_|refine below_set ?_ g3_|refine below_set ?_ g4_|refine below_set ?_ g5_)|exact h_)):p:=f h g0 g1 g2 g3 g4 g5
theorem qK7 {p q r0 r1 r2 r3 r4 r5 r6:Prop} (h:q) (g0:r0) (g1:r1) (g2:r2) (g3:r3) (g4:r4) (g5:r5) (g6:r6) (f:q→r0→r1→r2→r3→r4→r5→r6→p:=by intro h_ g0_ g1_ g2_ g3_ g4_ g5_ g6_;repeat(first|(with_reducible first|exact h_|apply below_alloc|apply pw_below_drewN|apply below_drew1|refine below_set ?_ g0_|refine below_set ?_ g1_|refine below_set ?_ g2_|refine below_set ?_ g3_|refine below_set ?_ g4_|refine below_set ?_ g5_|refine below_set ?_ g6_)|exact h_)):p:=f h g0 g1 g2 g3 g4 g5 g6
theorem qK8 {p q r0 r1 r2 r3 r4 r5 r6 r7:Prop} (h:q) (g0:r0) (g1:r1) (g2:r2) (g3:r3) (g4:r4) (g5:r5) (g6:r6) (g7:r7) (f:q→r0→r1→r2→r3→r4→r5→r6→r7→p:=by intro h_ g0_ g1_ g2_ g3_ g4_ g5_ g6_ g7_;repeat(first|(with_reducible first|exact h_|apply below_alloc|apply pw_below_drewN|apply below_drew1|refine below_set ?_ g0_|refine below_set ?_ g1_|refine below_set ?_ g2_|refine below_set ?_ g3_|refine below_set ?_ g4_|refine below_set ?_ g5_|refine below_set ?_ g6_|refine below_set ?_ g7_)|exact h_)):p:=f h g0 g1 g2 g3 g4 g5 g6 g7
theorem qG1 {p q r0:Prop} (h:q) (g0:r0) (f:q→r0→p:=by intro h_ g0_;(with_reducible repeat(first|refine blk_drewN ?_ _|refine blk_drew ?_|refine blk_alloc ?_ _));refine blk_far ?_ g0_ _;(with_reducible repeat(first|refine blk_drewN ?_ _|refine blk_drew ?_|refine blk_alloc ?_ _));exact h_):p:=f h g0
theorem qG2 {p q r0 r1:Prop} (h:q) (g0:r0) (g1:r1) (f:q→r0→r1→p:=by intro h_ g0_ g1_;(with_reducible repeat(first|refine blk_drewN ?_ _|refine blk_drew ?_|refine blk_alloc ?_ _));refine blk_far ?_ g0_ _;(with_reducible repeat(first|refine blk_drewN ?_ _|refine blk_drew ?_|refine blk_alloc ?_ _));refine blk_far ?_ g1_ _;(with_reducible repeat(first|refine blk_drewN ?_ _|refine blk_drew ?_|refine blk_alloc ?_ _));exact h_):p:=f h g0 g1
theorem qG3 {p q r0 r1 r2:Prop} (h:q) (g0:r0) (g1:r1) (g2:r2) (f:q→r0→r1→r2→p:=by intro h_ g0_ g1_ g2_;(with_reducible repeat(first|refine blk_drewN ?_ _|refine blk_drew ?_|refine blk_alloc ?_ _));refine blk_far ?_ g0_ _;(with_reducible repeat(first|refine blk_drewN ?_ _|refine blk_drew ?_|refine blk_alloc ?_ _));refine blk_far ?_ g1_ _;(with_reducible repeat(first|refine blk_drewN ?_ _|refine blk_drew ?_|refine blk_alloc ?_ _));refine blk_far ?_ g2_ _;(with_reducible repeat(first|refine blk_drewN ?_ _|refine blk_drew ?_|refine blk_alloc ?_ _));exact h_):p:=f h g0 g1 g2
theorem qG4 {p q r0 r1 r2 r3:Prop} (h:q) (g0:r0) (g1:r1) (g2:r2) (g3:r3) (f:q→r0→r1→r2→r3→p:=by intro h_ g0_ g1_ g2_ g3_;(with_reducible repeat(first|refine blk_drewN ?_ _|refine blk_drew ?_|refine blk_alloc ?_ _));refine blk_far ?_ g0_ _;(with_reducible repeat(first|refine blk_drewN ?_ _|refine blk_drew ?_|refine blk_alloc ?_ _));refine blk_far ?_ g1_ _;(with_reducible repeat(first|refine blk_drewN ?_ _|refine blk_drew ?_|refine blk_alloc ?_ _));refine blk_far ?_ g2_ _;(with_reducible repeat(first|refine blk_drewN ?_ _|refine blk_drew ?_|refine blk_alloc ?_ _));refine blk_far ?_ g3_ _;(with_reducible repeat(first|refine blk_drewN ?_ _|refine blk_drew ?_|refine blk_alloc ?_ _));exact h_):p:=f h g0 g1 g2 g3
theorem qG5 {p q r0 r1 r2 r3 r4:Prop} (h:q) (g0:r0) (g1:r1) (g2:r2) (g3:r3) (g4:r4) (f:q→r0→r1→r2→r3→r4→p:=by intro h_ g0_ g1_ g2_ g3_ g4_;(with_reducible repeat(first|refine blk_drewN ?_ _|refine blk_drew ?_|refine blk_alloc ?_ _));refine blk_far ?_ g0_ _;(with_reducible repeat(first|refine blk_drewN ?_ _|refine blk_drew ?_|refine blk_alloc ?_ _));refine blk_far ?_ g1_ _;(with_reducible repeat(first|refine blk_drewN ?_ _|refine blk_drew ?_|refine blk_alloc ?_ _));refine blk_far ?_ g2_ _;(with_reducible repeat(first|refine blk_drewN ?_ _|refine blk_drew ?_|refine blk_alloc ?_ _));refine blk_far ?_ g3_ _;(with_reducible repeat(first|refine blk_drewN ?_ _|refine blk_drew ?_|refine blk_alloc ?_ _));refine blk_far ?_ g4_ _;(with_reducible repeat(first|refine blk_drewN ?_ _|refine blk_drew ?_|refine blk_alloc ?_ _));exact h_):p:=f h g0 g1 g2 g3 g4
theorem qG6 {p q r0 r1 r2 r3 r4 r5:Prop} (h:q) (g0:r0) (g1:r1) (g2:r2) (g3:r3) (g4:r4) (g5:r5) (f:q→r0→r1→r2→r3→r4→r5→p:=by intro h_ g0_ g1_ g2_ g3_ g4_ g5_;(with_reducible repeat(first|refine blk_drewN ?_ _|refine blk_drew ?_|refine blk_alloc ?_ _));refine blk_far ?_ g0_ _;(with_reducible repeat(first|refine blk_drewN ?_ _|refine blk_drew ?_|refine blk_alloc ?_ _));refine blk_far ?_ g1_ _;(with_reducible repeat(first|refine blk_drewN ?_ _|refine blk_drew ?_|refine blk_alloc ?_ _));refine blk_far ?_ g2_ _;(with_reducible repeat(first|refine blk_drewN ?_ _|refine blk_drew ?_|refine blk_alloc ?_ _));refine blk_far ?_ g3_ _;(with_reducible repeat(first|refine blk_drewN ?_ _|refine blk_drew ?_|refine blk_alloc ?_ _));refine blk_far ?_ g4_ _;(with_reducible repeat(first|refine blk_drewN ?_ _|refine blk_drew ?_|refine blk_alloc ?_ _));refine blk_far ?_ g5_ _;(with_reducible repeat(first|refine blk_drewN ?_ _|refine blk_drew ?_|refine blk_alloc ?_ _));exact h_):p:=f h g0 g1 g2 g3 g4 g5
theorem qG7 {p q r0 r1 r2 r3 r4 r5 r6:Prop} (h:q) (g0:r0) (g1:r1) (g2:r2) (g3:r3) (g4:r4) (g5:r5) (g6:r6) (f:q→r0→r1→r2→r3→r4→r5→r6→p:=by intro h_ g0_ g1_ g2_ g3_ g4_ g5_ g6_;(with_reducible repeat(first|refine blk_drewN ?_ _|refine blk_drew ?_|refine blk_alloc ?_ _));refine blk_far ?_ g0_ _;(with_reducible repeat(first|refine blk_drewN ?_ _|refine blk_drew ?_|refine blk_alloc ?_ _));refine blk_far ?_ g1_ _;(with_reducible repeat(first|refine blk_drewN ?_ _|refine blk_drew ?_|refine blk_alloc ?_ _));refine blk_far ?_ g2_ _;(with_reducible repeat(first|refine blk_drewN ?_ _|refine blk_drew ?_|refine blk_alloc ?_ _));refine blk_far ?_ g3_ _;(with_reducible repeat(first|refine blk_drewN ?_ _|refine blk_drew ?_|refine blk_alloc ?_ _));refine blk_far ?_ g4_ _;(with_reducible repeat(first|refine blk_drewN ?_ _|refine blk_drew ?_|refine blk_alloc ?_ _));refine blk_far ?_ g5_ _;(with_reducible repeat(first|refine blk_drewN ?_ _|refine blk_drew ?_|refine blk_alloc ?_ _));refine blk_far ?_ g6_ _;(with_reducible repeat(first|refine blk_drewN ?_ _|refine blk_drew ?_|refine blk_alloc ?_ _));exact h_):p:=f h g0 g1 g2 g3 g4 g5 g6
theorem qG8 {p q r0 r1 r2 r3 r4 r5 r6 r7:Prop} (h:q) (g0:r0) (g1:r1) (g2:r2) (g3:r3) (g4:r4) (g5:r5) (g6:r6) (g7:r7) (f:q→r0→r1→r2→r3→r4→r5→r6→r7→p:=by intro h_ g0_ g1_ g2_ g3_ g4_ g5_ g6_ g7_;(with_reducible repeat(first|refine blk_drewN ?_ _|refine blk_drew ?_|refine blk_alloc ?_ _));refine blk_far ?_ g0_ _;(with_reducible repeat(first|refine blk_drewN ?_ _|refine blk_drew ?_|refine blk_alloc ?_ _));refine blk_far ?_ g1_ _;(with_reducible repeat(first|refine blk_drewN ?_ _|refine blk_drew ?_|refine blk_alloc ?_ _));refine blk_far ?_ g2_ _;(with_reducible repeat(first|refine blk_drewN ?_ _|refine blk_drew ?_|refine blk_alloc ?_ _));refine blk_far ?_ g3_ _;(with_reducible repeat(first|refine blk_drewN ?_ _|refine blk_drew ?_|refine blk_alloc ?_ _));refine blk_far ?_ g4_ _;(with_reducible repeat(first|refine blk_drewN ?_ _|refine blk_drew ?_|refine blk_alloc ?_ _));refine blk_far ?_ g5_ _;(with_reducible repeat(first|refine blk_drewN ?_ _|refine blk_drew ?_|refine blk_alloc ?_ _));refine blk_far ?_ g6_ _;(with_reducible repeat(first|refine blk_drewN ?_ _|refine blk_drew ?_|refine blk_alloc ?_ _));refine blk_far ?_ g7_ _;(with_reducible repeat(first|refine blk_drewN ?_ _|refine blk_drew ?_|refine blk_alloc ?_ _));exact h_):p:=f h g0 g1 g2 g3 g4 g5 g6 g7
theorem qA {p:Prop} (h:p:=by first|(with_reducible assumption)|assumption):p:=h
theorem qS {p:Prop} (h:p:=by first|rfl|(simp;done)|(simp[*];done)):p:=h
theorem qE {p:Prop} (h:p:=by first|rfl|(simp[errW_none,errW_some] <;> rfl)|(simp[*,errW_none,errW_some] <;> rfl)):p:=h
theorem qC {w w':World} {a:Addr} {v:Value} (hb:Below w.heap.size w w') (h:w.cell? a=some v):w'.cell? a=some v:=(hb.cell (World.block_lt_of_cell? w _ h)).trans h
theorem qT {p q:Prop} (h:q) (f:q→p:=by intro h_;repeat(first|exact h_|(with_reducible refine Kd.C_alloc ?_ _)|(with_reducible refine Kd.C_drewN ?_ _)|(with_reducible refine Kd.C_drew ?_))):p:=f h
theorem qP {p:Prop} (h:p:=by simp only[Act.put,z1',z2',z3',i64_w,i32_w];rfl):p:=h
theorem qI {p:Prop} (h:p:=by intro w';go_simp;with_reducible rfl):p:=h
theorem qH {a g n:Nat} (hg:g=n) (h:a≤n):a≤g:=by rw[hg];exact h
theorem qN {b g n:Nat} (hg:g=n) (h:b<n):b≠g:=by rw[hg];exact Nat.ne_of_lt h
theorem qM {b g n:Nat} (hg:g=n) (h:b<n):g≠b:=by rw[hg];exact Nat.ne_of_gt h
end Go.Proofs.Ytebbdadpgapobaa
