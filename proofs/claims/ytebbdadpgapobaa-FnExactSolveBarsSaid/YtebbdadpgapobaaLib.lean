/- Small lemmas about rounds, whole numbers and lists, used by all claims of this seat. No condition. -/
import Derived.Test.YtebbdadpgapobaaVWords
import Derived.Test.YtebbdadpgapobaaVMore
import Derived.Test.YtebbdadpgapobaaVSized
import Derived.RowKit
import Derived.OpenShut
namespace Go.Proofs.Ytebbdadpgapobaa.PrintWords
theorem sized_ints {H:Type} {enc:TypeId×Value→H} {P:Program} {W:World} {base:Nat} {spare:Nat→Bool} {held:Bool} {t e:TypeId} {k:IntKind} {a:Option Addr} {len cap:Nat} {d:DataW H} {ps:List MemPlace} {ts:List TypeId} {ds:List (DataW H)} {j:Nat}
 (hsz:(DataW.weightsEach P ts ds).all (· ≤reachBytes)=true) (ht:ts[j]? =some t) (hd:ds[j]? =some d) (hu:P.underlying t=some (.slice e)) (he:P.underlying e=some (.int k)) (hc:P.cellsOf e=1) {B:Nat} (hB:P.bytesOf e=B)
 (h:DataW.Trod enc P W base spare held t (.slice a len cap) d ps):len*B≤140737488351232:=
 Go.Proofs.YtebbdadpgapobaaW.PrintWords.sized_ints hsz ht hd hu he hc hB h
end Go.Proofs.Ytebbdadpgapobaa.PrintWords
namespace Go.Proofs.Ytebbdadpgapobaa.Lib
open Go.RowKit Go.Proofs.YtebbdadpgapobaaW.PrintWords Go.Proofs.YtebbdadpgapobaaW.PrintMore
theorem w64 {x:Int} (h1: -9223372036854775808≤x) (h2:x≤9223372036854775807):wrap64 x=x:=by
 unfold wrap64;omega
theorem w64s {i:Nat} (h:i<9223372036854775807):wrap64 ((i:Int)+1)=((i+1:Nat):Int):=by
 unfold wrap64;omega
theorem ev_succ {α:Type} {g:Nat→Option α} {r:α} (h:Ev (fun k=>g (k+1)) r):Ev g r:=
 Ev.step (fun _=>rfl) h
theorem ev_some {α:Type} {a r:α} (h:a=r):Ev (fun _=>some a) r:=by subst h;exact Ev.now _
theorem ev_pos {α:Type} {c:Prop} [Decidable c] {A B:Nat→Option α} {r:α} (h:c) (k:Ev A r):
 Ev (fun n=>if c then A n else B n) r:=by
 simp only[if_pos h];exact k
theorem ev_neg {α:Type} {c:Prop} [Decidable c] {A B:Nat→Option α} {r:α} (h: ¬c) (k:Ev B r):
 Ev (fun n=>if c then A n else B n) r:=by
 simp only[if_neg h];exact k
theorem ev_if {α:Type} {c:Prop} [Decidable c] {A B:Nat→Option α} {r:α} (k1:c→Ev A r) (k2: ¬c→Ev B r):
 Ev (fun n=>if c then A n else B n) r:=by
 by_cases h:c
 ·exact ev_pos h (k1 h)
 ·exact ev_neg h (k2 h)
theorem ev_now {α β:Type} {o:Option α} {f:Nat→α→Option β} {a:α} {r:β} (h:o=some a) (k:Ev (fun n=>f n a) r):
 Ev (fun n=>o.bind (f n)) r:=by
 subst h;exact k
theorem ev_det {α:Type} {g:Nat→Option α} {r q:α} (h:Ev g r) (h':Ev g q):r=q:=by
 obtain⟨K,h⟩:=h
 obtain⟨K',h'⟩:=h'
 have h1:=h (max K K') (by omega)
 have h2:=h' (max K K') (by omega)
 rw[h1]at h2
 exact Option.some.inj h2
theorem rd_nat {xs:List Int} {i:Nat} (h:i<xs.length):rd xs (i:Int)=xs[i]:=by
 unfold rd;simp[List.getD_eq_getElem?_getD,h]
theorem rd_mem {xs:List Int} {i:Int} (h0:0≤i) (h:i<xs.length):rd xs i∈xs:=by
 obtain⟨n,rfl⟩:=Int.eq_ofNat_of_zero_le h0
 rw[rd_nat (by omega)];exact List.getElem_mem _
theorem take_set {α:Type} (x y:List α) (i:Nat) (v:α) (hx:i<x.length) (hy:i<y.length) (ht:x.take i=y.take i) (hv:v=y[i]):
 (x.set i v).take (i+1)=y.take (i+1):=by
 subst hv
 rw[List.take_succ_eq_append_getElem (by simpa using hx),List.take_succ_eq_append_getElem hy,List.take_set_of_le (Nat.le_refl _),ht]
 simp
def marks (s:Int) (n:Nat):List Int:=(List.range n).map fun(j:Nat)=>s+(j:Int)
theorem marks_length (s:Int) (n:Nat):(marks s n).length=n:=by simp[marks]
theorem marks_get (s:Int) (n i:Nat) (h:i<(marks s n).length):(marks s n)[i]=s+(i:Int):=by simp[marks]
theorem ofd {p:Prop} [Decidable p] (h: ¬p):decide p=false:=decide_eq_false h
theorem ofd1 {p:Prop} [Decidable p] (h:p):decide p=true:=decide_eq_true h
theorem all_drop {α:Type} {P:α→Prop} {l:List α} {i:Nat} (h:i<l.length):
 (∀x∈l.drop i,P x)↔P l[i]∧ ∀x∈l.drop (i+1),P x:=by
 rw[List.drop_eq_getElem_cons h];exact List.forall_mem_cons
end Go.Proofs.Ytebbdadpgapobaa.Lib
