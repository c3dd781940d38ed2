/- A part of a proof. -/
import Derived.Deep.CutBlock
import Derived.Deep.DeepCutAuto
import Derived.Test.YtppfkokfnoeopaaGreatDoorSClusIter
import Derived.Test.YtppfkokfnoeopaaGreatDoorSSent
set_option maxRecDepth 400000
set_option maxHeartbeats 6400000
namespace Go.Proofs.YtppfkokfnoeopaaGreatDoor
open Go.RowKit Go.Maps Go.Proofs.Tryz
def Mt(ea:Nat→Addr)(L:CL)(w:World):Prop:=∀W,Fr L.own w W→Bh W ea [1,2,3,4,5,6,7,8,9,10,11]∧Bf W
theorem Ac.fr{S:Nat→Prop}{w w':World}{a:Option Addr}{cs:List Value}(h:Ac w a cs)(hf:Fr S w w')(hS:∀k,S k→∃es clock,w.heap[k]?=some (.map es clock)):Ac w' a cs:=by
 rcases h with h|⟨b,off,rfl,hlt,hc⟩
 ·exact Or.inl h
 ·by_cases hcs:cs=[]
  ·exact Or.inl hcs
  ·obtain⟨v,r,rfl⟩:=List.exists_cons_of_ne_nil hcs
   have hn:¬S b:=fun hs=>by
    obtain⟨es,clock,hm⟩:=hS b hs;have:=hc 0 v rfl;simp[World.cell?,hm] at this
   refine Or.inr ⟨b,off,rfl,Nat.lt_of_lt_of_le hlt hf.size,fun i u hu=>?_⟩;have h1:=hc i u hu;simp only[World.cell?,hf.block b hlt hn] at h1 ⊢;exact h1
theorem zBy{n:Int}(h:Aq n=true):(Lit.int .i64 n).wf=true:=by
 simp only[Aq,decide_eq_true_eq] at h;have h1:IntKind.i64.min=-9223372036854775808:=by decide +kernel
 have h2:IntKind.i64.max=9223372036854775807:=by decide +kernel
 simp only[Lit.wf,Bool.and_eq_true,decide_eq_true_eq,h1,h2];omega
theorem Zl(ea:Nat→Addr)(L:CL)(c:CP)(la:Option Addr)(ln lc:Nat)(w:World)(hg:Bh w ea [7])(h:Ap w L c)(ht:200≤c.time) :
 Calls prog 137 #[.pointer (some ⟨L.cb,0,none⟩),.slice la ln lc] w fun e w'=>e=.returned (.tuple #[.string ⟨#[]⟩,Bm ea 7])∧Ap w' L c∧Below w.heap.size w w':=by
 obtain⟨c0,c1,c2,c3⟩:=h.cells;have g7:=hg.cell 7 (by simp);have gl7:=hg.lt 7 (by simp);simp only[gOf] at g7 gl7;have hd:decide ((200:Int)≤(c.time:Int))=true:=by simp;omega
 have H:=zh h;clear h hg;go_enter func137,ntmps137;go_wp2;go_quiet (fail);go_wp2;go_ret2;exact⟨rfl,H.out.drewN _,Ab zb _⟩
theorem zKm{w w1:World}(hb:Below w.drew.heap.size w.drew w1):Below w.heap.size w w1:=(Ab zb 1).trans (hb.mono (by simp))
theorem zKh{w w1:World}{x y z:Value}{t:TypeId}(hb:Below (w.alloc (.cells #[x,y,z] t)).drew.heap.size (w.alloc (.cells #[x,y,z] t)).drew w1) :
 w1.cell? ⟨w.heap.size,0,none⟩=some x∧w1.cell? ⟨w.heap.size,1,none⟩=some y∧w1.cell? ⟨w.heap.size,2,none⟩=some z∧w1.frozen? ⟨w.heap.size,0,none⟩=false∧w1.frozen? ⟨w.heap.size,1,none⟩=false∧w1.frozen? ⟨w.heap.size,2,none⟩=false∧w.heap.size<w1.heap.size∧Below w.heap.size w w1:=by
 have hA:Below (w.alloc (.cells #[x,y,z] t)).heap.size (w.alloc (.cells #[x,y,z] t)) w1:=(Ab zb 1).trans (hb.mono (by simp))
 exact⟨(hA.cell (p:=⟨w.heap.size,0,none⟩) (by simp)).trans (by simp),
  (hA.cell (p:=⟨w.heap.size,1,none⟩) (by simp)).trans (by simp),
  (hA.cell (p:=⟨w.heap.size,2,none⟩) (by simp)).trans (by simp),
  (hA.frozen (p:=⟨w.heap.size,0,none⟩) (by simp)).trans (by simp),
  (hA.frozen (p:=⟨w.heap.size,1,none⟩) (by simp)).trans (by simp),
  (hA.frozen (p:=⟨w.heap.size,2,none⟩) (by simp)).trans (by simp),by have:=hb.size;simp at this;omega,(zb.alloc zl _).trans (hA.mono (by simp))⟩
theorem zKj{w w1:World}{p q r s:Value}{t:TypeId}(hb:Below (w.alloc (.cells #[p,q,r,s] t)).drew.heap.size (w.alloc (.cells #[p,q,r,s] t)).drew w1) :
 w1.cell? ⟨w.heap.size,0,none⟩=some p∧w1.cell? ⟨w.heap.size,1,none⟩=some q∧w1.cell? ⟨w.heap.size,2,none⟩=some r∧w1.cell? ⟨w.heap.size,3,none⟩=some s∧w1.frozen? ⟨w.heap.size,0,none⟩=false∧w1.frozen? ⟨w.heap.size,1,none⟩=false∧w1.frozen? ⟨w.heap.size,2,none⟩=false∧w1.frozen? ⟨w.heap.size,3,none⟩=false∧w.heap.size<w1.heap.size∧Below w.heap.size w w1:=by
 have hA:Below (w.alloc (.cells #[p,q,r,s] t)).heap.size (w.alloc (.cells #[p,q,r,s] t)) w1:=(Ab zb 1).trans (hb.mono (by simp))
 exact⟨(hA.cell (p:=⟨w.heap.size,0,none⟩) (by simp)).trans (by simp),
  (hA.cell (p:=⟨w.heap.size,1,none⟩) (by simp)).trans (by simp),
  (hA.cell (p:=⟨w.heap.size,2,none⟩) (by simp)).trans (by simp),
  (hA.cell (p:=⟨w.heap.size,3,none⟩) (by simp)).trans (by simp),
  (hA.frozen (p:=⟨w.heap.size,0,none⟩) (by simp)).trans (by simp),
  (hA.frozen (p:=⟨w.heap.size,1,none⟩) (by simp)).trans (by simp),
  (hA.frozen (p:=⟨w.heap.size,2,none⟩) (by simp)).trans (by simp),
  (hA.frozen (p:=⟨w.heap.size,3,none⟩) (by simp)).trans (by simp),by have:=hb.size;simp at this;omega,(zb.alloc zl _).trans (hA.mono (by simp))⟩
theorem zKg{w w1:World}{x y z p q r s:Value}{t t2:TypeId}(hb:Below ((w.alloc (.cells #[x,y,z] t)).alloc (.cells #[p,q,r,s] t2)).drew.heap.size ((w.alloc (.cells #[x,y,z] t)).alloc (.cells #[p,q,r,s] t2)).drew w1) :
 w1.cell? ⟨w.heap.size,0,none⟩=some x∧w1.cell? ⟨w.heap.size,1,none⟩=some y∧w1.cell? ⟨w.heap.size,2,none⟩=some z∧w1.cell? ⟨w.heap.size+1,0,none⟩=some p∧w1.cell? ⟨w.heap.size+1,1,none⟩=some q∧w1.cell? ⟨w.heap.size+1,2,none⟩=some r∧w1.cell? ⟨w.heap.size+1,3,none⟩=some s∧w1.frozen? ⟨w.heap.size,0,none⟩=false∧w1.frozen? ⟨w.heap.size,1,none⟩=false∧w1.frozen? ⟨w.heap.size,2,none⟩=false∧w1.frozen? ⟨w.heap.size+1,0,none⟩=false∧w1.frozen? ⟨w.heap.size+1,1,none⟩=false∧w1.frozen? ⟨w.heap.size+1,2,none⟩=false∧w1.frozen? ⟨w.heap.size+1,3,none⟩=false∧w.heap.size+1<w1.heap.size∧Below w.heap.size w w1:=by
 have hA:Below (w.alloc (.cells #[x,y,z] t)).heap.size (w.alloc (.cells #[x,y,z] t)) w1:=(Ab (zb.alloc zl _) 1).trans (hb.mono (by simp))
 exact⟨(hA.cell (p:=⟨w.heap.size,0,none⟩) (by simp)).trans (by simp),
  (hA.cell (p:=⟨w.heap.size,1,none⟩) (by simp)).trans (by simp),
  (hA.cell (p:=⟨w.heap.size,2,none⟩) (by simp)).trans (by simp),
  (hb.cell (p:=⟨w.heap.size+1,0,none⟩) (by simp)).trans (by simp),
  (hb.cell (p:=⟨w.heap.size+1,1,none⟩) (by simp)).trans (by simp),
  (hb.cell (p:=⟨w.heap.size+1,2,none⟩) (by simp)).trans (by simp),
  (hb.cell (p:=⟨w.heap.size+1,3,none⟩) (by simp)).trans (by simp),
  (hA.frozen (p:=⟨w.heap.size,0,none⟩) (by simp)).trans (by simp),
  (hA.frozen (p:=⟨w.heap.size,1,none⟩) (by simp)).trans (by simp),
  (hA.frozen (p:=⟨w.heap.size,2,none⟩) (by simp)).trans (by simp),
  (hb.frozen (p:=⟨w.heap.size+1,0,none⟩) (by simp)).trans (by simp),
  (hb.frozen (p:=⟨w.heap.size+1,1,none⟩) (by simp)).trans (by simp),
  (hb.frozen (p:=⟨w.heap.size+1,2,none⟩) (by simp)).trans (by simp),
  (hb.frozen (p:=⟨w.heap.size+1,3,none⟩) (by simp)).trans (by simp),by have:=hb.size;simp at this;omega,(zb.alloc zl _).trans (hA.mono (by simp))⟩
theorem zKi{w w1:World}{p q r s x y z:Value}{t t2:TypeId}(hb:Below ((w.alloc (.cells #[p,q,r,s] t)).alloc (.cells #[x,y,z] t2)).drew.heap.size ((w.alloc (.cells #[p,q,r,s] t)).alloc (.cells #[x,y,z] t2)).drew w1) :
 w1.cell? ⟨w.heap.size,0,none⟩=some p∧w1.cell? ⟨w.heap.size,1,none⟩=some q∧w1.cell? ⟨w.heap.size,2,none⟩=some r∧w1.cell? ⟨w.heap.size,3,none⟩=some s∧w1.cell? ⟨w.heap.size+1,0,none⟩=some x∧w1.cell? ⟨w.heap.size+1,1,none⟩=some y∧w1.cell? ⟨w.heap.size+1,2,none⟩=some z∧w1.frozen? ⟨w.heap.size,0,none⟩=false∧w1.frozen? ⟨w.heap.size,1,none⟩=false∧w1.frozen? ⟨w.heap.size,2,none⟩=false∧w1.frozen? ⟨w.heap.size,3,none⟩=false∧w1.frozen? ⟨w.heap.size+1,0,none⟩=false∧w1.frozen? ⟨w.heap.size+1,1,none⟩=false∧w1.frozen? ⟨w.heap.size+1,2,none⟩=false∧w.heap.size+1<w1.heap.size∧Below w.heap.size w w1:=by
 have hA:Below (w.alloc (.cells #[p,q,r,s] t)).heap.size (w.alloc (.cells #[p,q,r,s] t)) w1:=(Ab (zb.alloc zl _) 1).trans (hb.mono (by simp))
 exact⟨(hA.cell (p:=⟨w.heap.size,0,none⟩) (by simp)).trans (by simp),
  (hA.cell (p:=⟨w.heap.size,1,none⟩) (by simp)).trans (by simp),
  (hA.cell (p:=⟨w.heap.size,2,none⟩) (by simp)).trans (by simp),
  (hA.cell (p:=⟨w.heap.size,3,none⟩) (by simp)).trans (by simp),
  (hb.cell (p:=⟨w.heap.size+1,0,none⟩) (by simp)).trans (by simp),
  (hb.cell (p:=⟨w.heap.size+1,1,none⟩) (by simp)).trans (by simp),
  (hb.cell (p:=⟨w.heap.size+1,2,none⟩) (by simp)).trans (by simp),
  (hA.frozen (p:=⟨w.heap.size,0,none⟩) (by simp)).trans (by simp),
  (hA.frozen (p:=⟨w.heap.size,1,none⟩) (by simp)).trans (by simp),
  (hA.frozen (p:=⟨w.heap.size,2,none⟩) (by simp)).trans (by simp),
  (hA.frozen (p:=⟨w.heap.size,3,none⟩) (by simp)).trans (by simp),
  (hb.frozen (p:=⟨w.heap.size+1,0,none⟩) (by simp)).trans (by simp),
  (hb.frozen (p:=⟨w.heap.size+1,1,none⟩) (by simp)).trans (by simp),
  (hb.frozen (p:=⟨w.heap.size+1,2,none⟩) (by simp)).trans (by simp),by have:=hb.size;simp at this;omega,(zb.alloc zl _).trans (hA.mono (by simp))⟩
structure Tri(W:World)(k:Nat)(a b c:Value):Prop where
 c0:W.cell? ⟨k,0,none⟩=some a
 c1:W.cell? ⟨k,1,none⟩=some b
 c2:W.cell? ⟨k,2,none⟩=some c
 lt:k<W.heap.size
structure Is(W:World)(k:Nat)(a b c d:Value):Prop where
 c0:W.cell? ⟨k,0,none⟩=some a
 c1:W.cell? ⟨k,1,none⟩=some b
 c2:W.cell? ⟨k,2,none⟩=some c
 c3:W.cell? ⟨k,3,none⟩=some d
 lt:k<W.heap.size
theorem Tri.new(W:World)(t:TypeId)(a b c:Value){k:Nat}(hk:k=W.heap.size):Tri (W.alloc (.cells #[a,b,c] t)) k a b c:=by
 subst hk;exact⟨by simp,by simp,by simp,by simp⟩
theorem Tri.alloc{W:World}{k:Nat}{a b c:Value}(h:Tri W k a b c)(o:Obj):Tri (W.alloc o) k a b c:=
 ⟨(World.cell?_alloc_lt _ _ ⟨k,0,none⟩ h.lt).trans h.c0,(World.cell?_alloc_lt _ _ ⟨k,1,none⟩ h.lt).trans h.c1,(World.cell?_alloc_lt _ _ ⟨k,2,none⟩ h.lt).trans h.c2,by have:=h.lt;simp;omega⟩
theorem Tri.set{W:World}{k:Nat}{x y z a b c:Value}(h:Tri W k x y z):Tri (((W.setCell ⟨k,0,none⟩ a).setCell ⟨k,1,none⟩ b).setCell ⟨k,2,none⟩ c) k a b c:=by
 obtain⟨h0,h1,h2,h3⟩:=h;exact⟨by go_simp,by go_simp,by go_simp,by simpa using h3⟩
theorem Tri.setOther{W:World}{k:Nat}{a b c:Value}(h:Tri W k a b c){j:Nat}(hne:j≠k)(o:Nat)(v:Value):Tri (W.setCell ⟨j,o,none⟩ v) k a b c:=
 ⟨(World.cell?_setCell_far _ _ _ _ hne).trans h.c0,(World.cell?_setCell_far _ _ _ _ hne).trans h.c1,(World.cell?_setCell_far _ _ _ _ hne).trans h.c2,by simpa using h.lt⟩
theorem Is.new(W:World)(t:TypeId)(a b c d:Value){k:Nat}(hk:k=W.heap.size):Is (W.alloc (.cells #[a,b,c,d] t)) k a b c d:=by
 subst hk;exact⟨by simp,by simp,by simp,by simp,by simp⟩
theorem Is.alloc{W:World}{k:Nat}{a b c d:Value}(h:Is W k a b c d)(o:Obj):Is (W.alloc o) k a b c d:=
 ⟨(World.cell?_alloc_lt _ _ ⟨k,0,none⟩ h.lt).trans h.c0,(World.cell?_alloc_lt _ _ ⟨k,1,none⟩ h.lt).trans h.c1,(World.cell?_alloc_lt _ _ ⟨k,2,none⟩ h.lt).trans h.c2,(World.cell?_alloc_lt _ _ ⟨k,3,none⟩ h.lt).trans h.c3,by have:=h.lt;simp;omega⟩
theorem Is.set{W:World}{k:Nat}{x y z u a b c d:Value}(h:Is W k x y z u):Is ((((W.setCell ⟨k,0,none⟩ a).setCell ⟨k,1,none⟩ b).setCell ⟨k,2,none⟩ c).setCell ⟨k,3,none⟩ d) k a b c d:=by
 obtain⟨h0,h1,h2,h3,h4⟩:=h;exact⟨by go_simp,by go_simp,by go_simp,by go_simp,by simpa using h4⟩
theorem Is.setOther{W:World}{k:Nat}{a b c d:Value}(h:Is W k a b c d){j:Nat}(hne:j≠k)(o:Nat)(v:Value):Is (W.setCell ⟨j,o,none⟩ v) k a b c d:=
 ⟨(World.cell?_setCell_far _ _ _ _ hne).trans h.c0,(World.cell?_setCell_far _ _ _ _ hne).trans h.c1,(World.cell?_setCell_far _ _ _ _ hne).trans h.c2,(World.cell?_setCell_far _ _ _ _ hne).trans h.c3,by simpa using h.lt⟩
theorem Tri.below{W W':World}{k:Nat}{a b c:Value}(h:Tri W k a b c)(hb:Below W.heap.size W W'):Tri W' k a b c:=
 ⟨(hb.cell (p:=⟨k,0,none⟩) h.lt).trans h.c0,(hb.cell (p:=⟨k,1,none⟩) h.lt).trans h.c1,(hb.cell (p:=⟨k,2,none⟩) h.lt).trans h.c2,Nat.lt_of_lt_of_le h.lt hb.size⟩
theorem Is.below{W W':World}{k:Nat}{a b c d:Value}(h:Is W k a b c d)(hb:Below W.heap.size W W'):Is W' k a b c d:=
 ⟨(hb.cell (p:=⟨k,0,none⟩) h.lt).trans h.c0,(hb.cell (p:=⟨k,1,none⟩) h.lt).trans h.c1,(hb.cell (p:=⟨k,2,none⟩) h.lt).trans h.c2,(hb.cell (p:=⟨k,3,none⟩) h.lt).trans h.c3,Nat.lt_of_lt_of_le h.lt hb.size⟩
def Gm(left:Int→Bool)(f:Int→Option NP)(k:Int→NP→NP):Int→Option NP:=fun i=>if left i then f i else(f i).map (k i)
theorem Xv(f:Int→Option NP)(k:Int→NP→NP):Gm (fun i=>(f i).isSome) f k=f:=funext fun i=>by
 unfold Gm
 by_cases h:(f i).isSome=true
 ·rw[if_pos h]
 ·rw[if_neg h]
  have e:f i=none:=by cases hf:f i<;>simp_all
  rw[e];rfl
theorem zCp{left:Int→Bool}(h:∀i,left i=false)(f:Int→Option NP)(k:Int→NP→NP):Gm left f k=fun i=>(f i).map (k i):=funext fun i=>by
 unfold Gm;rw[h i];rfl
theorem zCq{left:Int→Bool}{f:Int→Option NP}{k:Int→NP→NP}{i:Int}{x y:NP}(hf:f i=some x)(hy:k i x=y):Ge (Gm left f k) i y=Gm (fun j=>left j&&!(j==i)) f k:=funext fun j=>by
 unfold Ge Gm
 by_cases e:j=i
 ·subst e;simp[hf,hy]
 ·have e2:(j==i)=false:=by simpa using e
  simp[e,e2]
theorem Ru{left:Int→Bool}{f:Int→Option NP}{k:Int→NP→NP}{i:Int}{x:NP}(hf:f i=some x)(hy:k i x=x):Gm left f k=Gm (fun j=>left j&&!(j==i)) f k:=funext fun j=>by
 unfold Gm
 by_cases e:j=i
 ·subst e;rw[hf,Option.map_some,hy];simp
 ·have e2:(j==i)=false:=by simpa using e
  simp[e2]
theorem Xu{left:Int→Bool}{f:Int→Option NP}{k:Int→NP→NP}{i:Int}(hl:left i=true):Gm left f k i=f i:=by unfold Gm;rw[hl];rfl
theorem Tb{w:World}{ops:Array Oper}{o:Oper}{a:Go.Act}{K:Go.Act→World→Prop}{Q:Exit→Go.Act→World→Prop}{E:Prop}(hg:o.guard=none)(m k v:Operand)(hop:o.op=Op.mapUpdate 138 m k v){mb r q cnt:Nat}{g:Int→Option NP}{left:Int→Bool}{i:Int}{x:NP}{sl:Value}
 (hm:a.eval m=.map (some mb)) (h:Bb w mb r g q left cnt) (hk:a.eval k=.int .i64 i) (hv:a.eval v=x.v sl) (hi:(Lit.int .i64 i).wf=true) (hf:(g i).isSome=true) (hr:Cx w sl x.h)
 (hK:∀w',Bb w' mb r (Ge g i x) q left cnt→w.grownBy w' (some mb)→w'.heap.size=w.heap.size→K (a.put o.dst undef) w'):if Region.wanted o (yielded ops a.tmps)=true then Oper.wp prog o a w K Q else E:=by
 have hw:Region.wanted o (yielded ops a.tmps)=true:=by simp[Region.wanted,hg]
 rw[if_pos hw];obtain⟨w',hrun,r1,r2,r3⟩:=h.put hi hf hr;unfold Oper.wp;simp[execOp,hop,hm,hk,hv,hrun,Result.andThen];exact hK w' r1 r2 r3
theorem zKe{W w5:World}{a b c:Nat}{v0 v1 v2 v3 v4 v5:Value}(h:W.drew.cell? ⟨a,3,none⟩=some v0∧W.drew.cell? ⟨b,1,none⟩=some v1∧W.drew.cell? ⟨c,2,none⟩=some v2∧W.drew.cell? ⟨c,3,none⟩=some v3∧W.drew.cell? ⟨c,4,none⟩=some v4∧W.drew.cell? ⟨c,5,none⟩=some v5)(hb:Below W.drew.heap.size W.drew w5)(hl:a<W.heap.size∧b<W.heap.size∧c<W.heap.size) :
 w5.cell? ⟨a,3,none⟩=some v0∧w5.cell? ⟨b,1,none⟩=some v1∧w5.cell? ⟨c,2,none⟩=some v2∧w5.cell? ⟨c,3,none⟩=some v3∧w5.cell? ⟨c,4,none⟩=some v4∧w5.cell? ⟨c,5,none⟩=some v5:=by
 obtain⟨h0,h1,h2,h3,h4,h5⟩:=h;exact⟨(hb.cell (p:=⟨a,3,none⟩) hl.1).trans h0,(hb.cell (p:=⟨b,1,none⟩) hl.2.1).trans h1,(hb.cell (p:=⟨c,2,none⟩) hl.2.2).trans h2,(hb.cell (p:=⟨c,3,none⟩) hl.2.2).trans h3,(hb.cell (p:=⟨c,4,none⟩) hl.2.2).trans h4,(hb.cell (p:=⟨c,5,none⟩) hl.2.2).trans h5⟩
theorem zKd{w5 wz:World}{a b c m:Nat}{v0 v1 v2 v3 v4 v5:Value}(h:w5.cell? ⟨a,3,none⟩=some v0∧w5.cell? ⟨b,1,none⟩=some v1∧w5.cell? ⟨c,2,none⟩=some v2∧w5.cell? ⟨c,3,none⟩=some v3∧w5.cell? ⟨c,4,none⟩=some v4∧w5.cell? ⟨c,5,none⟩=some v5)(hg:w5.grownBy wz (some m))(hm:m≠a∧m≠b∧m≠c) :
 wz.cell? ⟨a,3,none⟩=some v0∧wz.cell? ⟨b,1,none⟩=some v1∧wz.cell? ⟨c,2,none⟩=some v2∧wz.cell? ⟨c,3,none⟩=some v3∧wz.cell? ⟨c,4,none⟩=some v4∧wz.cell? ⟨c,5,none⟩=some v5:=by
 obtain⟨h0,h1,h2,h3,h4,h5⟩:=h;have na:some a≠some m:=fun e=>hm.1 (by injection e with e;exact e.symm)
 have nb:some b≠some m:=fun e=>hm.2.1 (by injection e with e;exact e.symm)
 have nc:some c≠some m:=fun e=>hm.2.2 (by injection e with e;exact e.symm)
 exact⟨Gr hg h0 na,Gr hg h1 nb,Gr hg h2 nc,Gr hg h3 nc,Gr hg h4 nc,Gr hg h5 nc⟩
theorem Six.set4{W:World}{k:Nat}{t:TypeId}{a b c d e f:Value}(h:Six W k t a b c d e f)(x y z u:Value):Six ((((W.setCell ⟨k,2,none⟩ x).setCell ⟨k,3,none⟩ y).setCell ⟨k,4,none⟩ z).setCell ⟨k,5,none⟩ u) k t a b x y z u:=by
 obtain⟨⟨cur,ho⟩,h0,h1,h2,h3,h4,h5,hf,hl⟩:=h;refine⟨⟨_,heap_setCell_same _ k 5 _ _ _ (heap_setCell_same _ k 4 _ _ _ (heap_setCell_same _ k 3 _ _ _ (heap_setCell_same W k 2 _ _ _ ho)))⟩,by go_simp,by go_simp,by go_simp,by go_simp,by go_simp,by go_simp,fun o=>by go_simp,by simpa using hl⟩
theorem Q7{w W:World}(k:Nat)(hb:Below w.heap.size w W)(x y z u:Value):Fr (fun j=>j=k) w ((((W.setCell ⟨k,2,none⟩ x).setCell ⟨k,3,none⟩ y).setCell ⟨k,4,none⟩ z).setCell ⟨k,5,none⟩ u):=
 ((((Fr.of (S:=fun j=>j=k) hb).setCell (p:=⟨k,2,none⟩) (Or.inl rfl) x).setCell (p:=⟨k,3,none⟩) (Or.inl rfl) y).setCell (p:=⟨k,4,none⟩) (Or.inl rfl) z).setCell (p:=⟨k,5,none⟩) (Or.inl rfl) u
theorem Cx.set4{W:World}{k:Nat}{a b c d e f sl:Value}{hh:List Ent}(h:Cx W sl hh)(h6:Six W k 143 a b c d e f)(x y z u:Value):Cx ((((W.setCell ⟨k,2,none⟩ x).setCell ⟨k,3,none⟩ y).setCell ⟨k,4,none⟩ z).setCell ⟨k,5,none⟩ u) sl hh:=
 h.fr (Q7 k (Below.refl W.heap.size W) x y z u) (fun j cur hj e2=>by
  obtain⟨cur2,ho⟩:=h6.obj;subst e2
  rw[ho] at hj;injection hj with hj;injection hj with _ e3;revert e3;decide)
set_option maxRecDepth 1000000 in
set_option maxHeartbeats 32000000 in
theorem zE9(ea:Nat→Addr)(L:CL)(c:CP)(la:Option Addr)(ln lc:Nat)(lost:List Int)(w:World)(hE:Mt ea L w)(h:Ap w L c)(hI:Ce c)(ht:c.time<200)(hll:lost.length=ln)(hlr:Ac w la (Aa lost))(hlc:ln≤1000) :
 Calls prog 137 #[.pointer (some ⟨L.cb,0,none⟩),.slice la ln lc] w fun e w'=>e=.returned (.tuple #[.string ⟨c.sent.toArray⟩,.nilIface])∧Ap w' L (c.slot (Da c.plan.length) lost)∧Fr L.own w w':=by
 obtain⟨c0,c1,c2,c3⟩:=h.cells;obtain⟨l1,l2,l3,l4⟩:=h.lt;have hpl:=Ai hI.plan;have hd:decide ((200:Int)≤(c.time:Int))=false:=by simp;omega
 have hR:(Bj c.plan (c.time:Int)).1=0:=by rw[Bj,if_pos hI.plan,if_pos (by omega)]
 have hwv:zEh c.plan (c.time:Int)=Am c.plan c.time:=by rw[zEh,if_pos hR];rfl
 have hwm:=D0 c.plan c.time hpl.2.1
 obtain⟨z,hz⟩:∃z,c.f (Am c.plan c.time)=some z:=by
  have h1:=hI.dom (Am c.plan c.time);rw[decide_eq_true hwm] at h1;exact Option.isSome_iff_exists.1 h1
 have hzN:=hI.node _ z hz;have hwi:(Lit.int .i64 (Am c.plan c.time)).wf=true:=zBy hzN.node;have hcd:Ap w.drew L c:=h.drewN 1;have C1:=zh (zB9 ea L.pa c.plan.length L.pc c.plan (c.time:Int) w.drew ((hE _ ((Fr.refl _ _).drewN 1)).1.sub (by simp)) rfl hcd.row (by omega));rw[Jg hR,hwv] at C1;obtain⟨ka,kb,kc,kd⟩:=hcd.cells;have k0:w.drew.cell? ⟨L.cb,0,none⟩=some (.slice L.pa c.plan.length L.pc):=ka;have k1:w.drew.cell? ⟨L.cb,1,none⟩=some (.int .i64 c.time):=kb;have hl1:=hcd.lt.1;have H:=zh h;have HI:=zh hI;have HE:=zh hE;have HZ:=zh hz;have HZN:=zh hzN;have HLR:=zh hlr;have HLL:=zh hll;clear h hI hE hz hzN hlr hll ka kb kc kd hcd hR hwv hwm;generalize hwho:Am c.plan c.time=who at *;have HWHO:=zh hwho;clear hwho;go_enter func137,ntmps137;go_wp2
 go_region_held3 (fun w'=>w'.cell? ⟨L.cb,0,none⟩=some (.slice L.pa c.plan.length L.pc)∧w'.cell? ⟨L.cb,1,none⟩=some (.int .i64 c.time)) (go_keep)
  ((go_at_call 181;(with_reducible refine C1.out.mono ?_);rintro e w1⟨v,rfl,hE1,hb1⟩;obtain rfl:=hE1.nil;have d0:=(hb1.cell (p:=⟨L.cb,0,none⟩) hl1).trans k0;have d1:=(hb1.cell (p:=⟨L.cb,1,none⟩) hl1).trans k1))
 have hb1':Below w.heap.size w w1:=(Ab zb 1).trans hb1;have hM1:=H.out.below hb1';obtain⟨q,hq,hN1⟩:=hM1.nodes;obtain⟨sa,sc,hlk,hrow⟩:=hN1.at_some hwi HZ.out;have e3:=hM1.cells.2.2.2;clear d0 d1 k0 k1 hE1 hb1
 have hsnd:(z.st=2∧c.sent=Ei c.plan z.m z.d z.s who z.val∧Fd c.plan z.m z.d z.s who z.val=(0,-1))∨(z.st≠2∧c.sent=[]):=by
  by_cases hst:z.st=2
  ·have hN:=HZN.out
   rw[←HWHO.out] at hN;have h1:=(Jh hN HI.out.plan hst (by omega)).1;rw[HWHO.out] at h1;exact Or.inl ⟨hst,by rw[CP.sent,HWHO.out,HZ.out];simp only[hst,if_true],h1⟩
  ·exact Or.inr ⟨hst,by rw[CP.sent,HWHO.out,HZ.out];simp only[hst,if_false]⟩
 have HSND:=zh hsnd;clear hsnd;go_upto_if 52 with(fail);obtain⟨W2,hW2,S2,hb2,hz2,hc2⟩:=Ng w1 143 (.int .i64 z.st) (.int .i64 z.val) (.int .i64 z.m) (.int .i64 z.d) (.int .i64 z.s) (.slice sa z.h.length sc);rw[←hW2];have hbw2:Below w.heap.size w W2:=Ar hb1' hb2;clear hW2 hz2 hc2;go_cut [8] (fun s8 wx=>s8=.string ⟨c.sent.toArray⟩∧Below w.heap.size w wx)
 case first=>
  as_aux_lemma=>
   rcases HSND.out with⟨hst,hs1,hs2⟩|⟨hst,hs1⟩
   ·have hd:(z.st==2)=true:=by simpa using hst
    have hM2:=H.out.below (Ab hbw2 1);obtain⟨ka,kb,kc,kd⟩:=hM2.cells;have k0:W2.drew.cell? ⟨L.cb,0,none⟩=some (.slice L.pa c.plan.length L.pc):=ka;have S3:=S2.below (Ab (Below.refl W2.heap.size W2) 1);obtain⟨_,_,na,nb,nc,nd,_,_,nl⟩:=S3;have n1:W2.drew.cell? ⟨w1.heap.size,1,none⟩=some (.int .i64 z.val):=na;have n2:W2.drew.cell? ⟨w1.heap.size,2,none⟩=some (.int .i64 z.m):=nb;have n3:W2.drew.cell? ⟨w1.heap.size,3,none⟩=some (.int .i64 z.d):=nc;have n4:W2.drew.cell? ⟨w1.heap.size,4,none⟩=some (.int .i64 z.s):=nd;have hl2:=hM2.lt.1;have C2:=zh (zHe ea L.pa c.plan.length L.pc c.plan z.m z.d z.s who z.val W2.drew ((HE.out _ (Fr.of (Ab hbw2 1))).1.sub (by simp)) (HE.out _ (Fr.of (Ab hbw2 1))).2 rfl hM2.row (by omega));rw[hs2] at C2;have HS1:=zh hs1;clear ka kb kc kd na nb nc nd hM2 hs1 hs2 hst;go_wp2
    go_region_held3 (fun w'=>w'.cell? ⟨L.cb,0,none⟩=some (.slice L.pa c.plan.length L.pc)∧w'.cell? ⟨w1.heap.size,1,none⟩=some (.int .i64 z.val)∧w'.cell? ⟨w1.heap.size,2,none⟩=some (.int .i64 z.m)∧w'.cell? ⟨w1.heap.size,3,none⟩=some (.int .i64 z.d)∧w'.cell? ⟨w1.heap.size,4,none⟩=some (.int .i64 z.s)) (go_keep)
     ((go_at_call 182;(with_reducible refine C2.out.mono ?_);rintro e w3⟨v,rfl,hE3,hb3⟩;obtain rfl:=hE3.nil;have d0:=(hb3.cell (p:=⟨L.cb,0,none⟩) hl2).trans k0;have d1:=(hb3.cell (p:=⟨w1.heap.size,1,none⟩) nl).trans n1;have d2:=(hb3.cell (p:=⟨w1.heap.size,2,none⟩) nl).trans n2;have d3:=(hb3.cell (p:=⟨w1.heap.size,3,none⟩) nl).trans n3;have d4:=(hb3.cell (p:=⟨w1.heap.size,4,none⟩) nl).trans n4))
    have hbf:Below w.heap.size w w3:=Ar (Ab hbw2 1) hb3;go_wp2_with fail;go_meet
    case rel=>exact⟨by rw[HS1.out],hbf⟩
   ·have hd:(z.st==2)=false:=by simpa using hst
    have HS1:=zh hs1;clear hst hs1;go_wp2_with fail;go_meet
    case rel=>exact⟨by rw[HS1.out],hbw2⟩
 case rest=>
  obtain⟨rfl,hbc⟩:=hcut;clear hb1' hM1 hN1 hrow e3 hlk S2 hb2 hbw2 hq;have hMc:=H.out.below hbc;have C3:=zh (Rg L c wc hMc HI.out.dom (Ai HI.out.plan).2.2.2);clear hMc;go_wp2_with fail;refine C3.out.mono ?_;rintro e w4⟨na,nc,rfl,hns,hb4⟩;have hb4':Below w.heap.size w w4:=Ar hbc hb4;have hM4:=H.out.below hb4';obtain⟨q4,hq4,hN4⟩:=hM4.nodes;have hrise:=zh (Kr c.plan);have hmem:=zh (Hs (Ai HI.out.plan).2.2.2);have hlen:=J3 c.plan;generalize Bq c.plan=ns at *;have hN4':Be w4 L.mb (D9 (ns.take 0) c.f (NP.step c.plan who lost c.sent)) q4:=by rw[List.take_zero,Oo];exact hN4
  have HM4:=zh hM4;have HNS:=zh hns;have HB4:=zh hb4';clear hM4 hN4 hns hb4' hb4 hbc C3;go_wp2;go_loopw [72] (fun i wr=>∃k:Nat,k≤ns.length∧i=.int .i64 k∧Be wr L.mb (D9 (ns.take k) c.f (NP.step c.plan who lost c.sent)) q4∧Fr (fun k=>k=L.mb) w4 wr) (fun i _=>ns.length-(intOf i).toNat)
  case atStart=>exact⟨0,Nat.zero_le _,rfl,hN4',Fr.refl _ _⟩
  case round=>
   clear hN4';obtain⟨k,hk,rfl,hN,hF⟩:=hrel
   by_cases hlt:k<ns.length
   ·have hF4:Fr (fun k=>k=L.mb) w wr:=(Fr.of HB4.out).trans hF
    have hEr:=HE.out wr (hF4.own (fun k _ e=>Or.inr (Or.inr e)));have hMr:=HM4.out.map hF (fun k _ e=>e) hq4 hN
    have hrw:=Cd (Dh HNS.out hF (fun k cur hk e=>(by
     obtain⟨es,clock,hm⟩:=HM4.out.nodes.choose_spec.2.map
     rw[e,hm] at hk;cases hk)))
    obtain⟨nb,no,rfl,hnb,hnc⟩:=hrw.int k hlt;have hnm:=(hmem.out ns[k]).1 (List.getElem_mem hlt);have hnn:=(Ai HI.out.plan).2.2.2 _ hnm;have hnw:=zBy hnn;have hnt:=Yt hrise.out hlt;have HTK:=zh (List.take_succ_eq_append_getElem hlt)
    obtain⟨x,hx⟩:∃x,c.f ns[k]=some x:=by
     have h1:=HI.out.dom ns[k];rw[decide_eq_true hnm] at h1;exact Option.isSome_iff_exists.1 h1
    have hxN:=HI.out.node _ x hx;have hxp:D9 (ns.take k) c.f (NP.step c.plan who lost c.sent) ns[k]=some x:=by rw[Wg hnt,hx]
    obtain⟨sa,sc,hlk0,hrow⟩:=hN.at_some' hnw hxp;have hlk:=hlk0 wr zb;have e3:=hMr.cells.2.2.2;have hi0:(0:Int)≤(k:Int):=by omega
    have hi1:(k:Int)<(ns.length:Int):=by omega
    generalize ns[k]=i at *;have HX:=zh hx;have HXN:=zh hxN;have HROW:=zh hrow;have HN:=zh hN;have HNT:=zh hnt;have HF4:=zh hF4;have HF:=zh hF;have HMR:=zh hMr;have HER:=zh hEr;obtain⟨W2,hW2,S2,hb2,hz2,hc2⟩:=Ng wr 143 (.int .i64 x.st) (.int .i64 x.val) (.int .i64 x.m) (.int .i64 x.d) (.int .i64 x.s) (.slice sa x.h.length sc);clear hx hxN hrow hN hF4 hF hMr hEr hlk0 hxp hnt hrw hnm hz2 hc2
    by_cases hst:x.st=2
    ·have hd:(x.st != 2)=false:=by simpa using hst
     have HST:=zh hst;clear hst;go_upto_region 18 with(fail);rw[←hW2];clear hW2;have hlr2:=(HLR.out.fr HF4.out (fun k e=>by subst e;obtain⟨es,clock,hm⟩:=H.out.nodes.choose_spec.2.map;exact⟨es,clock,hm⟩)).below hb2;have C4:=zh (Nx i la ln lc lost W2 HLL.out hlr2 (by omega));clear hlr2;obtain⟨B,hBe⟩:∃B:Bool,B=decide (i≠who∧i∈lost):=⟨_,rfl⟩
     have HBE:=zh hBe;clear hBe;go_cut [93] from 73 to 124 (fun s93 wx=>s93=.bool B∧W2=wx)
     case first=>
      as_aux_lemma=>
       by_cases hiw:i=who
       ·have hd2:(i != who)=false:=by simpa using hiw
        have hB:Hid (B=false):=by unfold Hid;rw[HBE.out];simp[hiw]
        clear hiw;go_wp2_with fail;go_meet
        case rel=>exact⟨by rw[hB.out],rfl⟩
       ·have hd2:(i != who)=true:=by simpa using hiw
        have hB:Hid (B=decide (i∈lost)):=by unfold Hid;rw[HBE.out];simp[hiw]
        clear hiw;go_wp2_with fail;refine C4.out.mono ?_;rintro e w'⟨rfl,rfl⟩;go_wp2_with fail;go_meet
        case rel=>exact⟨by rw[hB.out],rfl⟩
     case rest=>
      obtain⟨rfl,rfl⟩:=hcut;clear C4;obtain⟨heard,hheard⟩:∃t:List UInt8,t=if i≠who∧i∈lost then[] else c.sent:=⟨_,rfl⟩
      have HH:=zh hheard;clear hheard;go_upto_if 93 with(fail);go_cut [13] from 73 to 124 (fun s13 wx=>s13=.string ⟨heard.toArray⟩∧W2=wx)
      case first=>
       as_aux_lemma=>
        cases B
        ·have hB2:Hid (heard=c.sent):=by unfold Hid;rw[HH.out,if_neg (of_decide_eq_false HBE.out.symm)]
         go_wp2_with fail;go_meet
         case rel=>exact⟨by rw[hB2.out],rfl⟩
        ·have hB2:Hid (heard=[]):=by unfold Hid;rw[HH.out,if_pos (of_decide_eq_true HBE.out.symm)]
         go_wp2_with fail;go_meet
         case rel=>exact⟨by rw[hB2.out],rfl⟩
      case rest=>
       obtain⟨rfl,rfl⟩:=hcut;go_upto_region 20 with(fail);have hM2:=HMR.out.below hb2;have hM3:=hM2.below (Ab zb 1);obtain⟨ka,kb,kc,kd⟩:=hM3.cells;have k0:W2.cell? ⟨L.cb,0,none⟩=some (.slice L.pa c.plan.length L.pc):=ka;have n2:W2.cell? ⟨wr.heap.size,2,none⟩=some (.int .i64 x.m):=S2.c2;have n3:W2.cell? ⟨wr.heap.size,3,none⟩=some (.int .i64 x.d):=S2.c3;have n4:W2.cell? ⟨wr.heap.size,4,none⟩=some (.int .i64 x.s):=S2.c4;have hl0:L.cb<W2.heap.size:=hM2.lt.1;have hl2:wr.heap.size<W2.heap.size:=S2.lt
       have hstF:Ee c.plan x.m x.d x.s=(0,-1):=by
        have hMM:=HXN.out.mem HI.out.plan HST.out (by omega);have h5:=HXN.out.on HST.out;rw[Ee,if_pos hMM,if_neg (by omega)]
       have hhl:heard.length≤95:=by
        rw[HH.out];split
        ·simp
        ·exact HI.out.sent_len
       have hE2:∀W,Below W2.heap.size W2 W→Bh W ea [1,2,3,4,5,7,8]∧Bf W∧Ac W L.pa (Aa c.plan):=fun W hb=>by
        have hF0:Fr L.own w W:=((HF4.out.off hb2).off hb).own (fun k _ e=>Or.inr (Or.inr e));exact⟨(HE.out W hF0).1.sub (by simp),(HE.out W hF0).2,hM2.row.below hb⟩
       obtain⟨V,hV⟩:∃V,V=D3 c.plan x.m x.d x.s heard:=⟨_,rfl⟩
       obtain⟨E,hEE⟩:∃E,E=Ff c.plan x.m x.d x.s heard:=⟨_,rfl⟩
       have C5:Hid (∀W,Below W2.heap.size W2 W→Calls prog 184 #[.slice L.pa c.plan.length L.pc,.agg #[.int .i64 x.m,.int .i64 x.d,.int .i64 x.s],.string ⟨heard.toArray⟩] W fun e w'=>
        e=.returned (.tuple #[.agg #[.int .i64 V.1,.int .i64 V.2.1,.int .i64 V.2.2],.agg #[.int .i64 E.slot,.int .i64 E.frm,.bool E.heard,.int .i64 E.value],.nilIface])∧Below W.heap.size W w'):=by
        intro W hb;obtain⟨g1,g2,g3⟩:=hE2 W hb;refine(zHi ea L.pa c.plan.length L.pc c.plan x.m x.d x.s heard W g1 g2 rfl g3 (by omega) (by omega)).mono ?_;rintro e w'⟨v,rfl,hEv,hb'⟩;rw[hstF] at hEv;obtain rfl:=hEv.nil;rw[hV,hEE];exact⟨rfl,hb'⟩
       have HV:=zh hV;have HEE:=zh hEE;have HHL:=zh hhl;have HM2:=zh hM2;have hkeep:∀n,W2.heap.size≤n→L.cb≠n∧wr.heap.size≠n:=fun n hn=>by omega
       clear hV hEE hstF hhl hE2 ka kb kc kd hM3 hM2;go_cut [14,15,16] from 73 to 124 (fun s14 s15 s16 wx=>∃b14 b15:Nat,s14=.pointer (some ⟨b14,0,none⟩)∧s15=.pointer (some ⟨b15,0,none⟩)∧s16=.nilIface∧Tri wx b14 (.int .i64 V.1) (.int .i64 V.2.1) (.int .i64 V.2.2)∧Is wx b15 (.int .i64 E.slot) (.int .i64 E.frm) (.bool E.heard) (.int .i64 E.value)∧W2.heap.size≤b14∧W2.heap.size≤b15∧Below W2.heap.size W2 wx)
       case first=>
        as_aux_lemma=>
         go_region_held3 (fun w'=>w'.cell? ⟨L.cb,0,none⟩=some (.slice L.pa c.plan.length L.pc)∧w'.cell? ⟨wr.heap.size,2,none⟩=some (.int .i64 x.m)∧w'.cell? ⟨wr.heap.size,3,none⟩=some (.int .i64 x.d)∧w'.cell? ⟨wr.heap.size,4,none⟩=some (.int .i64 x.s))
          (first|go_keep|(refine⟨?_,?_,?_,?_⟩<;>(simp(disch:=(simp;omega)) only[World.cell?_setCell_far,World.cell?_alloc_lt];assumption)))
          ((go_at_call 184;(with_reducible refine(C5.out _ ?_).mono ?_);exact(by first|exact Ab zb 1|exact(Ab zb 1).alloc (by simp) _|exact((Ab zb 1).alloc (by simp) _).alloc (by simp) _);rintro e w7⟨rfl,hb7⟩;have hz7:=hb7.size;(first|(have hx7:=zKg hb7;obtain⟨ma0,ma1,ma2,mb0,mb1,mb2,mb3,fa0,fa1,fa2,fb0,fb1,fb2,fb3,mlt,hbw7⟩:=hx7)|(have hx7:=zKi hb7;obtain⟨mb0,mb1,mb2,mb3,ma0,ma1,ma2,fb0,fb1,fb2,fb3,fa0,fa1,fa2,mlt,hbw7⟩:=hx7)|(have hx7:=zKh hb7;obtain⟨ma0,ma1,ma2,fa0,fa1,fa2,mlt,hbw7⟩:=hx7)|(have hx7:=zKj hb7;obtain⟨mb0,mb1,mb2,mb3,fb0,fb1,fb2,fb3,mlt,hbw7⟩:=hx7)|(have hbw7:=zKm hb7));have d0:w7.cell? ⟨L.cb,0,none⟩=some (.slice L.pa c.plan.length L.pc):=(hb7.cell (p:=⟨L.cb,0,none⟩) (by simp;omega)).trans (by simp[*]);have d2:w7.cell? ⟨wr.heap.size,2,none⟩=some (.int .i64 x.m):=(hb7.cell (p:=⟨wr.heap.size,2,none⟩) (by simp;omega)).trans (by simp[*]);have d3:w7.cell? ⟨wr.heap.size,3,none⟩=some (.int .i64 x.d):=(hb7.cell (p:=⟨wr.heap.size,3,none⟩) (by simp;omega)).trans (by simp[*]);have d4:w7.cell? ⟨wr.heap.size,4,none⟩=some (.int .i64 x.s):=(hb7.cell (p:=⟨wr.heap.size,4,none⟩) (by simp;omega)).trans (by simp[*])))
         all_goals
          go_wp2_with fail;go_meet
          case rel=>
           have hzw:=hbw7.size;refine⟨_,_,rfl,rfl,rfl,?_,?_,by omega,by omega,?_⟩
           ·repeat(with_reducible first|refine Tri.new _ _ _ _ _ ?_|refine Tri.set (x:=.int .i64 0) (y:=.int .i64 0) (z:=.int .i64 0) ?_|refine(Tri.mk ma0 ma1 ma2 ?_:Tri w7 _ _ _ _)|refine Tri.setOther ?_ ?_ _ _|refine Tri.alloc ?_ _)
            all_goals(first|omega|(simp;done)|(simp;omega))
           ·repeat(with_reducible first|refine Is.new _ _ _ _ _ _ ?_|refine Is.set (x:=.int .i64 0) (y:=.int .i64 0) (z:=.bool false) (u:=.int .i64 0) ?_|refine(Is.mk mb0 mb1 mb2 mb3 ?_:Is w7 _ _ _ _ _)|refine Is.setOther ?_ ?_ _ _|refine Is.alloc ?_ _)
            all_goals(first|omega|(simp;done)|(simp;omega))
           ·repeat(with_reducible first|exact hbw7|refine Below.setCell ?_ ?_ _|refine Below.alloc ?_ ?_ _)
            all_goals(first|omega|(simp;done)|(simp;omega))
       case rest=>
        obtain⟨b14,b15,rfl,rfl,rfl,hT,hQ,hz14,hz15,hbx⟩:=hcut;have S5:=S2.below hbx;have hr5:=(HROW.out.below hb2).below hbx;have HBX:=zh hbx;have HB2:=zh hb2;have hl5:=S5.lt;obtain⟨i0,hi,hz0,hz1,hz2⟩:=info_parts M9;have hi':=zh hi;have hz0':=zh hz0;have hz1':=zh hz1;have hz2':=zh hz2;have n5:wc.cell? ⟨wr.heap.size,5,none⟩=some (.slice sa x.h.length sc):=S5.c5;have n5e:(wc.alloc (.cells #[.int .i64 E.slot,.int .i64 E.frm,.bool E.heard,.int .i64 E.value] 146)).cell? ⟨wr.heap.size,5,none⟩=some (.slice sa x.h.length sc):=(World.cell?_alloc_lt _ _ ⟨wr.heap.size,5,none⟩ hl5).trans S5.c5;have hbD:Below wc.heap.size wc wc.drew:=Ab zb 1;have hbE:Below wc.heap.size wc (wc.alloc (.cells #[.int .i64 E.slot,.int .i64 E.frm,.bool E.heard,.int .i64 E.value] 146)).drew:=Ab (zb.alloc zl _) 1;have hEw:(wc.alloc (.cells #[.int .i64 E.slot,.int .i64 E.frm,.bool E.heard,.int .i64 E.value] 146)).drew.heap[wc.heap.size]?=some (.cells #[.int .i64 E.slot,.int .i64 E.frm,.bool E.heard,.int .i64 E.value] 146 (0,0)):=heap_alloc_new wc _;have hpa:wr.heap.size≠b14:=by have:=S2.lt;omega
        have hpb:wr.heap.size≠b15:=by have:=S2.lt;omega
        have hxl:x.h.length≤200:=Rk (HXN.out.on HST.out).2.2.2.2.2;have KC:=zh (fun(W:World) (hb:Below wc.heap.size wc W)=>Gv sa x.h.length sc x.h W rfl (Cd (hr5.below hb)) (by omega));clear C5 k0 n2 n3 n4 hkeep hb2 hi hz0 hz1 hz2;go_upto_region 23 with(fail);go_cut [109] from 73 to 124 (fun _ wx=>∃(a':Option Addr) (cap':Nat),Cx wx (.slice a' (x.h.length+1) cap') (x.h++[E])∧Six wx wr.heap.size 143 (.int .i64 x.st) (.int .i64 x.val) (.int .i64 V.1) (.int .i64 V.2.1) (.int .i64 V.2.2) (.slice a' (x.h.length+1) cap')∧Fr (fun k=>k=wr.heap.size) wc wx)
        case first=>
         as_aux_lemma=>
          refine wp_region_held_drew (S:=fun w'=>Tri w' b14 (.int .i64 V.1) (.int .i64 V.2.1) (.int .i64 V.2.2)∧Is w' b15 (.int .i64 E.slot) (.int .i64 E.frm) (.bool E.heard) (.int .i64 E.value)) (by kernel_rfl) ⟨hT.below (Ab zb 1),hQ.below (Ab zb 1)⟩ (fun hHeld=>?_);refine wpAnyH_take (i:=1) (v:=?_) rfl (by kernel_rfl) (by kernel_rfl) (by kernel_rfl) (fun _ _ _ h=>h) (Or.inl ⟨by rfl,?_⟩) (by assumption) ?_;rotate_left
          ·(intro w hSw;go_simp;try with_reducible rfl)
          try simp only[Act.put]
          try simp only[List.setIfInBounds_toArray]
          try simp only[List.set_cons_succ]
          try simp only[List.set_cons_zero]
          refine wpAnyH_take (i:=0) (v:=.agg #[.int .i64 V.1,.int .i64 V.2.1,.int .i64 V.2.2]) rfl (by kernel_rfl) (by kernel_rfl) (by kernel_rfl) (fun _ _ _ h=>h) (Or.inl ⟨by rfl,?_⟩) (by assumption) ?_
          ·(intro w hSw;obtain⟨⟨s0,s1,s2,_⟩,_⟩:=hSw;go_simp)
          try simp only[Act.put]
          try simp only[List.setIfInBounds_toArray]
          try simp only[List.set_cons_succ]
          try simp only[List.set_cons_zero]
          refine wpAnyH_take (i:=4) (v:=.agg #[.int .i64 E.slot,.int .i64 E.frm,.bool E.heard,.int .i64 E.value]) rfl (by kernel_rfl) (by kernel_rfl) (by kernel_rfl) (fun _ _ _ h=>h) (Or.inl ⟨by rfl,?_⟩) (by assumption) ?_
          ·(intro w hSw;obtain⟨_,s0,s1,s2,s3,_⟩:=hSw;go_simp)
          try simp only[Act.put]
          try simp only[List.setIfInBounds_toArray]
          try simp only[List.set_cons_succ]
          try simp only[List.set_cons_zero]
          refine wpAnyH_ready (rs:=[2,5]) (by kernel_rfl) (by simp) ?_;refine AllReadyH.cons rfl (fun K hK=>?_) ?_
          ·go_simp
           refine hK.out _ _ ?_ (fun hHeld=>?_)
           ·exact hHeld
           clear hK K
           try simp only[Act.put]
           try simp only[List.setIfInBounds_toArray]
           try simp only[List.set_cons_succ]
           try simp only[List.set_cons_zero]
           refine wpAnyH_take (i:=7) (v:=?_) rfl (by kernel_rfl) (by kernel_rfl) (by kernel_rfl) (fun _ _ _ h=>h) (Or.inl ⟨by rfl,?_⟩) (by assumption) ?_;rotate_left
           ·(intro w hSw;go_simp;try with_reducible rfl)
           try simp only[Act.put]
           try simp only[List.setIfInBounds_toArray]
           try simp only[List.set_cons_succ]
           try simp only[List.set_cons_zero]
           refine wpAnyH_ready (rs:=[3,5]) (by kernel_rfl) (by simp) ?_;refine AllReadyH.cons rfl (fun K hK=>?_) ?_
           ·go_simp
            go_at_call 84;refine(KC.out _ hbD).mono ?_;rintro e w5⟨a5,c5,rfl,ho5,hb5⟩;go_wp2_with fail;refine hK.out _ _ ?_ (fun hHeld=>?_)
            ·exact⟨hHeld.1.below hb5,hHeld.2.below hb5⟩
            clear hK K
            try simp only[Act.put]
            try simp only[List.setIfInBounds_toArray]
            try simp only[List.set_cons_succ]
            try simp only[List.set_cons_zero]
            refine wpAnyH_ready (rs:=[5]) (by kernel_rfl) (by simp) ?_;refine AllReadyH.cons rfl (fun K hK=>?_) AllReadyH.nil;go_simp;refine hK.out _ _ ?_ (fun hHeld=>?_)
            ·exact⟨hHeld.1.alloc _,hHeld.2.alloc _⟩
            clear hK K
            try simp only[Act.put]
            try simp only[List.setIfInBounds_toArray]
            try simp only[List.set_cons_succ]
            try simp only[List.set_cons_zero]
            refine wpAnyH_ready (rs:=[6]) (by kernel_rfl) (by simp) ?_;refine AllReadyH.cons rfl (fun K hK=>?_) AllReadyH.nil;have hB5:Below wc.heap.size wc (w5.alloc (.cells #[.int .i64 E.slot,.int .i64 E.frm,.bool E.heard,.int .i64 E.value] 146)):=(hbD.trans (hb5.mono hbD.size)).alloc (Nat.le_trans hbD.size hb5.size) _;have hO5:(w5.alloc (.cells #[.int .i64 E.slot,.int .i64 E.frm,.bool E.heard,.int .i64 E.value] 146)).ownsRow 0 146 4 (.slice a5 x.h.length c5) x.h.length (Av x.h):=(C0 ho5 (Nat.zero_le _)).alloc _;have hlo5:∀j,(Value.slice a5 x.h.length c5).ownBlock=some j→wc.heap.size≤j:=fun j e=>Nat.le_trans hbD.size (ho5.lt j e).1
            have hEb:=heap_alloc_new w5 (.cells #[.int .i64 E.slot,.int .i64 E.frm,.bool E.heard,.int .i64 E.value] 146);refine step_append_lies _ (by rfl) _ _ 97 (by rfl) 0 146 i0 _ 4 32 underlying97 hi'.out hz0'.out hz1'.out hz2'.out rfl (by omega) (.slice a5 x.h.length c5) x.h.length (Av x.h) (by rfl) hO5 ⟨w5.heap.size,0,none⟩ 1 1 E.cells (by rfl) (by rfl) (World.news_of_block (cs:=E.cells.toArray) (t:=146) (fr:=(0,0)) hEb) (Ent.one E) (by omega) (by unfold maxLen;omega) (by omega) (Nat.zero_le _) _ rfl ?_;intro gg cap w6 ho6 hg6 _ _;have hne6:∀k,k<wc.heap.size→some k≠(Value.slice a5 x.h.length c5).ownBlock:=fun k hk e=>by have:=hlo5 k e.symm;omega
            have hB6:Below wc.heap.size wc w6:=hB5.grown hg6 hB5.size hlo5;have S6:=S5.below hB6;obtain⟨_,q0,q1,q2,q3,q4,q5,qf,ql⟩:=S6;have hH6:Cx w6 (.slice (some ⟨gg,0,none⟩) (x.h.length+1) cap) (x.h++[E]):=by rw[Cx,List.length_append,List.length_singleton,Hg];exact ho6
            have HH6:=zh hH6;have HB6:=zh hB6;have HS6:=zh (S5.below hB6);refine hK.out _ _ ?_ (fun hHeld=>?_)
            ·exact⟨hT.below hB6,hQ.below hB6⟩
            clear hK K
            try simp only[Act.put]
            try simp only[List.setIfInBounds_toArray]
            try simp only[List.set_cons_succ]
            try simp only[List.set_cons_zero]
            refine wpAnyH_ready (rs:=[8]) (by kernel_rfl) (by simp) ?_;refine AllReadyH.cons rfl (fun K hK=>?_) AllReadyH.nil;go_simp;refine hK.out _ _ ?_ (fun hHeld=>?_)
            ·exact⟨((hHeld.1.setOther hpa _ _).setOther hpa _ _).setOther hpa _ _,((hHeld.2.setOther hpb _ _).setOther hpb _ _).setOther hpb _ _⟩
            clear hK K
            try simp only[Act.put]
            try simp only[List.setIfInBounds_toArray]
            try simp only[List.set_cons_succ]
            try simp only[List.set_cons_zero]
            refine wpAnyH_take (i:=9) (v:=?_) rfl (by kernel_rfl) (by kernel_rfl) (by kernel_rfl) (fun _ _ _ h=>h) (Or.inl ⟨by rfl,?_⟩) (by assumption) ?_;rotate_left
            ·(intro w hSw;go_simp;try with_reducible rfl)
            try simp only[Act.put]
            try simp only[List.setIfInBounds_toArray]
            try simp only[List.set_cons_succ]
            try simp only[List.set_cons_zero]
            refine wpAnyH_ready (rs:=[10]) (by kernel_rfl) (by simp) ?_;refine AllReadyH.cons rfl (fun K hK=>?_) AllReadyH.nil;go_simp;refine hK.out _ _ ?_ (fun hHeld=>?_)
            ·exact⟨hHeld.1.setOther hpa _ _,hHeld.2.setOther hpb _ _⟩
            clear hK K
            try simp only[Act.put]
            try simp only[List.setIfInBounds_toArray]
            try simp only[List.set_cons_succ]
            try simp only[List.set_cons_zero]
            refine wpAnyH_done (by kernel_rfl) ?_ _;have hF8:=HS6.out.set4 (.int .i64 V.1) (.int .i64 V.2.1) (.int .i64 V.2.2) (.slice (some ⟨gg,0,none⟩) (x.h.length+1) cap);have hR8:=HH6.out.set4 HS6.out (.int .i64 V.1) (.int .i64 V.2.1) (.int .i64 V.2.2) (.slice (some ⟨gg,0,none⟩) (x.h.length+1) cap);have hX8:=Q7 wr.heap.size HB6.out (.int .i64 V.1) (.int .i64 V.2.1) (.int .i64 V.2.2) (.slice (some ⟨gg,0,none⟩) (x.h.length+1) cap);have HF8:=zh hF8;have HR8:=zh hR8;have HX8:=zh hX8;clear hF8 hR8 hX8;go_wp2_with fail;go_meet
            case rel=>exact⟨_,_,HR8.out,HF8.out,HX8.out⟩
           refine AllReadyH.cons rfl (fun K hK=>?_) AllReadyH.nil;go_simp;refine hK.out _ _ ?_ (fun hHeld=>?_)
           ·exact⟨hHeld.1.alloc _,hHeld.2.alloc _⟩
           clear hK K
           try simp only[Act.put]
           try simp only[List.setIfInBounds_toArray]
           try simp only[List.set_cons_succ]
           try simp only[List.set_cons_zero]
           refine wpAnyH_ready (rs:=[3]) (by kernel_rfl) (by simp) ?_;refine AllReadyH.cons rfl (fun K hK=>?_) AllReadyH.nil;go_simp;go_at_call 84;refine(KC.out _ hbE).mono ?_;rintro e w5⟨a5,c5,rfl,ho5,hb5⟩;go_wp2_with fail;refine hK.out _ _ ?_ (fun hHeld=>?_)
           ·exact⟨hHeld.1.below hb5,hHeld.2.below hb5⟩
           clear hK K
           try simp only[Act.put]
           try simp only[List.setIfInBounds_toArray]
           try simp only[List.set_cons_succ]
           try simp only[List.set_cons_zero]
           refine wpAnyH_ready (rs:=[6]) (by kernel_rfl) (by simp) ?_;refine AllReadyH.cons rfl (fun K hK=>?_) AllReadyH.nil;have hB5:Below wc.heap.size wc w5:=hbE.trans (hb5.mono hbE.size);have hO5:w5.ownsRow 0 146 4 (.slice a5 x.h.length c5) x.h.length (Av x.h):=C0 ho5 (Nat.zero_le _);have hlo5:∀j,(Value.slice a5 x.h.length c5).ownBlock=some j→wc.heap.size≤j:=fun j e=>Nat.le_trans hbE.size (ho5.lt j e).1
           have hEb:=(hb5.block wc.heap.size (by simp)).trans hEw;refine step_append_lies _ (by rfl) _ _ 97 (by rfl) 0 146 i0 _ 4 32 underlying97 hi'.out hz0'.out hz1'.out hz2'.out rfl (by omega) (.slice a5 x.h.length c5) x.h.length (Av x.h) (by rfl) hO5 ⟨wc.heap.size,0,none⟩ 1 1 E.cells (by rfl) (by rfl) (World.news_of_block (cs:=E.cells.toArray) (t:=146) (fr:=(0,0)) hEb) (Ent.one E) (by omega) (by unfold maxLen;omega) (by omega) (Nat.zero_le _) _ rfl ?_;intro gg cap w6 ho6 hg6 _ _;have hne6:∀k,k<wc.heap.size→some k≠(Value.slice a5 x.h.length c5).ownBlock:=fun k hk e=>by have:=hlo5 k e.symm;omega
           have hB6:Below wc.heap.size wc w6:=hB5.grown hg6 hB5.size hlo5;have S6:=S5.below hB6;obtain⟨_,q0,q1,q2,q3,q4,q5,qf,ql⟩:=S6;have hH6:Cx w6 (.slice (some ⟨gg,0,none⟩) (x.h.length+1) cap) (x.h++[E]):=by rw[Cx,List.length_append,List.length_singleton,Hg];exact ho6
           have HH6:=zh hH6;have HB6:=zh hB6;have HS6:=zh (S5.below hB6);refine hK.out _ _ ?_ (fun hHeld=>?_)
           ·exact⟨hT.below hB6,hQ.below hB6⟩
           clear hK K
           try simp only[Act.put]
           try simp only[List.setIfInBounds_toArray]
           try simp only[List.set_cons_succ]
           try simp only[List.set_cons_zero]
           refine wpAnyH_ready (rs:=[8]) (by kernel_rfl) (by simp) ?_;refine AllReadyH.cons rfl (fun K hK=>?_) AllReadyH.nil;go_simp;refine hK.out _ _ ?_ (fun hHeld=>?_)
           ·exact⟨((hHeld.1.setOther hpa _ _).setOther hpa _ _).setOther hpa _ _,((hHeld.2.setOther hpb _ _).setOther hpb _ _).setOther hpb _ _⟩
           clear hK K
           try simp only[Act.put]
           try simp only[List.setIfInBounds_toArray]
           try simp only[List.set_cons_succ]
           try simp only[List.set_cons_zero]
           refine wpAnyH_take (i:=9) (v:=?_) rfl (by kernel_rfl) (by kernel_rfl) (by kernel_rfl) (fun _ _ _ h=>h) (Or.inl ⟨by rfl,?_⟩) (by assumption) ?_;rotate_left
           ·(intro w hSw;go_simp;try with_reducible rfl)
           try simp only[Act.put]
           try simp only[List.setIfInBounds_toArray]
           try simp only[List.set_cons_succ]
           try simp only[List.set_cons_zero]
           refine wpAnyH_ready (rs:=[10]) (by kernel_rfl) (by simp) ?_;refine AllReadyH.cons rfl (fun K hK=>?_) AllReadyH.nil;go_simp;refine hK.out _ _ ?_ (fun hHeld=>?_)
           ·exact⟨hHeld.1.setOther hpa _ _,hHeld.2.setOther hpb _ _⟩
           clear hK K
           try simp only[Act.put]
           try simp only[List.setIfInBounds_toArray]
           try simp only[List.set_cons_succ]
           try simp only[List.set_cons_zero]
           refine wpAnyH_done (by kernel_rfl) ?_ _;have hF8:=HS6.out.set4 (.int .i64 V.1) (.int .i64 V.2.1) (.int .i64 V.2.2) (.slice (some ⟨gg,0,none⟩) (x.h.length+1) cap);have hR8:=HH6.out.set4 HS6.out (.int .i64 V.1) (.int .i64 V.2.1) (.int .i64 V.2.2) (.slice (some ⟨gg,0,none⟩) (x.h.length+1) cap);have hX8:=Q7 wr.heap.size HB6.out (.int .i64 V.1) (.int .i64 V.2.1) (.int .i64 V.2.2) (.slice (some ⟨gg,0,none⟩) (x.h.length+1) cap);have HF8:=zh hF8;have HR8:=zh hR8;have HX8:=zh hX8;clear hF8 hR8 hX8;go_wp2_with fail;go_meet
           case rel=>exact⟨_,_,HR8.out,HF8.out,HX8.out⟩
          refine AllReadyH.cons rfl (fun K hK=>?_) AllReadyH.nil;go_simp;refine hK.out _ _ ?_ (fun hHeld=>?_)
          ·exact⟨hHeld.1.alloc _,hHeld.2.alloc _⟩
          clear hK K
          try simp only[Act.put]
          try simp only[List.setIfInBounds_toArray]
          try simp only[List.set_cons_succ]
          try simp only[List.set_cons_zero]
          refine wpAnyH_ready (rs:=[2]) (by kernel_rfl) (by simp) ?_;refine AllReadyH.cons rfl (fun K hK=>?_) AllReadyH.nil;go_simp;refine hK.out _ _ ?_ (fun hHeld=>?_)
          ·exact hHeld
          clear hK K
          try simp only[Act.put]
          try simp only[List.setIfInBounds_toArray]
          try simp only[List.set_cons_succ]
          try simp only[List.set_cons_zero]
          refine wpAnyH_take (i:=7) (v:=?_) rfl (by kernel_rfl) (by kernel_rfl) (by kernel_rfl) (fun _ _ _ h=>h) (Or.inl ⟨by rfl,?_⟩) (by assumption) ?_;rotate_left
          ·(intro w hSw;go_simp;try with_reducible rfl)
          try simp only[Act.put]
          try simp only[List.setIfInBounds_toArray]
          try simp only[List.set_cons_succ]
          try simp only[List.set_cons_zero]
          refine wpAnyH_ready (rs:=[3]) (by kernel_rfl) (by simp) ?_;refine AllReadyH.cons rfl (fun K hK=>?_) AllReadyH.nil;go_simp;go_at_call 84;refine(KC.out _ hbE).mono ?_;rintro e w5⟨a5,c5,rfl,ho5,hb5⟩;go_wp2_with fail;refine hK.out _ _ ?_ (fun hHeld=>?_)
          ·exact⟨hHeld.1.below hb5,hHeld.2.below hb5⟩
          clear hK K
          try simp only[Act.put]
          try simp only[List.setIfInBounds_toArray]
          try simp only[List.set_cons_succ]
          try simp only[List.set_cons_zero]
          refine wpAnyH_ready (rs:=[6]) (by kernel_rfl) (by simp) ?_;refine AllReadyH.cons rfl (fun K hK=>?_) AllReadyH.nil;have hB5:Below wc.heap.size wc w5:=hbE.trans (hb5.mono hbE.size);have hO5:w5.ownsRow 0 146 4 (.slice a5 x.h.length c5) x.h.length (Av x.h):=C0 ho5 (Nat.zero_le _);have hlo5:∀j,(Value.slice a5 x.h.length c5).ownBlock=some j→wc.heap.size≤j:=fun j e=>Nat.le_trans hbE.size (ho5.lt j e).1
          have hEb:=(hb5.block wc.heap.size (by simp)).trans hEw;refine step_append_lies _ (by rfl) _ _ 97 (by rfl) 0 146 i0 _ 4 32 underlying97 hi'.out hz0'.out hz1'.out hz2'.out rfl (by omega) (.slice a5 x.h.length c5) x.h.length (Av x.h) (by rfl) hO5 ⟨wc.heap.size,0,none⟩ 1 1 E.cells (by rfl) (by rfl) (World.news_of_block (cs:=E.cells.toArray) (t:=146) (fr:=(0,0)) hEb) (Ent.one E) (by omega) (by unfold maxLen;omega) (by omega) (Nat.zero_le _) _ rfl ?_;intro gg cap w6 ho6 hg6 _ _;have hne6:∀k,k<wc.heap.size→some k≠(Value.slice a5 x.h.length c5).ownBlock:=fun k hk e=>by have:=hlo5 k e.symm;omega
          have hB6:Below wc.heap.size wc w6:=hB5.grown hg6 hB5.size hlo5;have S6:=S5.below hB6;obtain⟨_,q0,q1,q2,q3,q4,q5,qf,ql⟩:=S6;have hH6:Cx w6 (.slice (some ⟨gg,0,none⟩) (x.h.length+1) cap) (x.h++[E]):=by rw[Cx,List.length_append,List.length_singleton,Hg];exact ho6
          have HH6:=zh hH6;have HB6:=zh hB6;have HS6:=zh (S5.below hB6);refine hK.out _ _ ?_ (fun hHeld=>?_)
          ·exact⟨hT.below hB6,hQ.below hB6⟩
          clear hK K
          try simp only[Act.put]
          try simp only[List.setIfInBounds_toArray]
          try simp only[List.set_cons_succ]
          try simp only[List.set_cons_zero]
          refine wpAnyH_ready (rs:=[8]) (by kernel_rfl) (by simp) ?_;refine AllReadyH.cons rfl (fun K hK=>?_) AllReadyH.nil;go_simp;refine hK.out _ _ ?_ (fun hHeld=>?_)
          ·exact⟨((hHeld.1.setOther hpa _ _).setOther hpa _ _).setOther hpa _ _,((hHeld.2.setOther hpb _ _).setOther hpb _ _).setOther hpb _ _⟩
          clear hK K
          try simp only[Act.put]
          try simp only[List.setIfInBounds_toArray]
          try simp only[List.set_cons_succ]
          try simp only[List.set_cons_zero]
          refine wpAnyH_take (i:=9) (v:=?_) rfl (by kernel_rfl) (by kernel_rfl) (by kernel_rfl) (fun _ _ _ h=>h) (Or.inl ⟨by rfl,?_⟩) (by assumption) ?_;rotate_left
          ·(intro w hSw;go_simp;try with_reducible rfl)
          try simp only[Act.put]
          try simp only[List.setIfInBounds_toArray]
          try simp only[List.set_cons_succ]
          try simp only[List.set_cons_zero]
          refine wpAnyH_ready (rs:=[10]) (by kernel_rfl) (by simp) ?_;refine AllReadyH.cons rfl (fun K hK=>?_) AllReadyH.nil;go_simp;refine hK.out _ _ ?_ (fun hHeld=>?_)
          ·exact⟨hHeld.1.setOther hpa _ _,hHeld.2.setOther hpb _ _⟩
          clear hK K
          try simp only[Act.put]
          try simp only[List.setIfInBounds_toArray]
          try simp only[List.set_cons_succ]
          try simp only[List.set_cons_zero]
          refine wpAnyH_done (by kernel_rfl) ?_ _;have hF8:=HS6.out.set4 (.int .i64 V.1) (.int .i64 V.2.1) (.int .i64 V.2.2) (.slice (some ⟨gg,0,none⟩) (x.h.length+1) cap);have hR8:=HH6.out.set4 HS6.out (.int .i64 V.1) (.int .i64 V.2.1) (.int .i64 V.2.2) (.slice (some ⟨gg,0,none⟩) (x.h.length+1) cap);have hX8:=Q7 wr.heap.size HB6.out (.int .i64 V.1) (.int .i64 V.2.1) (.int .i64 V.2.2) (.slice (some ⟨gg,0,none⟩) (x.h.length+1) cap);have HF8:=zh hF8;have HR8:=zh hR8;have HX8:=zh hX8;clear hF8 hR8 hX8;go_wp2_with fail;go_meet
          case rel=>exact⟨_,_,HR8.out,HF8.out,HX8.out⟩
        case rest=>
         obtain⟨a9,cap9,hH9,S9,hF9⟩:=hcut
         have hNx:Be wc L.mb (D9 (ns.take k) c.f (NP.step c.plan who lost c.sent)) q4:=((HN.out.below HB2.out).below HBX.out).fr hF9 (fun e=>by have:=HN.out.lt;omega) (fun j cur hj e=>by
          obtain⟨cur2,ho⟩:=S5.obj;subst e
          rw[ho] at hj;injection hj with hj;injection hj with _ e2;revert e2;decide)
         have hNd:=zh (hNx.below (Ab zb 1));have hHd:=zh (hH9.below (Ab (Below.refl wc.heap.size wc) 1));have hFw:Fr (fun k=>k=L.mb) w4 wc:=((HF.out.off HB2.out).off HBX.out).then hF9 (fun i e=>Or.inr (by rw[e];exact HF.out.size))
         have hst2:NP.step c.plan who lost c.sent i x=⟨x.st,x.val,V.1,V.2.1,V.2.2,x.h++[E]⟩:=by
          rw[NP.step,if_pos HST.out,←HH.out,←HV.out,←HEE.out,HST.out]
         have HST2:=zh hst2;have e3x:=(HMR.out.cells).2.2.2
         have e3c:wc.cell? ⟨L.cb,3,none⟩=some (.map (some L.mb)):=by
          have h1:=(hF9.block L.cb (Nat.lt_of_lt_of_le (Nat.lt_of_lt_of_le HMR.out.lt.1 HB2.out.size) HBX.out.size) (fun e=>by have:=HMR.out.lt.1;omega));have h2:=(HBX.out.cell (p:=⟨L.cb,3,none⟩) (Nat.lt_of_lt_of_le HMR.out.lt.1 HB2.out.size)).trans ((HB2.out.cell (p:=⟨L.cb,3,none⟩) HMR.out.lt.1).trans e3x);simp only[World.cell?,h1] at h2 ⊢;exact h2
         obtain⟨_,q0,q1,q2,q3,q4',q5,qf,ql⟩:=S9;have HFw:=zh hFw;have hpi:=zh (L4 (k:=NP.step c.plan who lost c.sent) (ds:=ns.take k) HX.out HST2.out);have hpa2:Hid ((D9 (ns.take k) c.f (NP.step c.plan who lost c.sent) i).isSome=true):=by unfold Hid;rw[Wg HNT.out,HX.out];rfl
         clear hNx hH9 hFw hst2 e3x hF9 hT hQ qf n5 n5e hbD hbE hEw KC;go_wp2;go_still_tail 6,(by kernel_rfl)
         change wpList _ _ _ _ _ wc.drew
         go_wp2_with (at_mapUpdate;refine Ek rfl _ _ _ rfl (mb:=L.mb) (i:=i) (x:=⟨x.st,x.val,V.1,V.2.1,V.2.2,x.h++[E]⟩) (sl:=.slice a9 (x.h.length+1) cap9) rfl hNd.out (by omega) rfl rfl hnw hHd.out ?_;intro wz hNz hgz);rw[if_pos hpa2.out,hpi.out,←HTK.out] at hNz;have HNZ:=zh hNz;have HFZ:Hid (Fr (fun k=>k=L.mb) w4 wz):=(HFw.out.drewN 1).trans (Fr.grown hgz (fun k e=>by injection e with e;exact e.symm));clear hNz hgz
         as_aux_lemma=>
          go_roundw
          case rel=>(first|exact⟨k+1,by omega,by go_num,HNZ.out,HFZ.out⟩|((repeat apply Exists.intro);exact⟨⟨k+1,by omega,by go_num,HNZ.out,HFZ.out⟩,rfl⟩))
          case measure=>simp[intOf];omega
    ·have hd:(x.st != 2)=true:=by simpa using hst
     have hsk:D9 (ns.take k) c.f (NP.step c.plan who lost c.sent)=D9 (ns.take (k+1)) c.f (NP.step c.plan who lost c.sent):=by
      rw[HTK.out];exact Mm HX.out (by rw[NP.step,if_neg hst])
     have hN5:Hid (Be W2 L.mb (D9 (ns.take (k+1)) c.f (NP.step c.plan who lost c.sent)) q4):=by
      have h0:=HN.out.below hb2;rw[hsk] at h0;exact h0
     have HF5:=zh (HF.out.off hb2);clear hst hsk
     as_aux_lemma=>
      go_wp2;rw[←hW2];go_roundw
      case rel=>exact⟨k+1,by omega,by go_num,hN5.out,HF5.out⟩
      case measure=>simp[intOf];omega
   ·obtain rfl:k=ns.length:=by omega
    have hfull:D9 (ns.take ns.length) c.f (NP.step c.plan who lost c.sent)=c.f1 lost:=by
     rw[List.take_length,On (fun i x h=>(hmem.out i).2 (by have h1:=HI.out.dom i;rw[h] at h1;simpa using h1.symm)),←HWHO.out]
     rfl
    rw[hfull] at hN;have hF4:Fr (fun k=>k=L.mb) w wr:=(Fr.of HB4.out).trans hF;have hEr:=HE.out wr (hF4.own (fun k _ e=>Or.inr (Or.inr e)));obtain⟨G,hG⟩:∃G,G=Ak c.sent:=⟨_,rfl⟩
    have C6:Hid (Calls prog 185 #[.string ⟨c.sent.toArray⟩] wr fun e w'=>e=.returned (.tuple #[.agg #[.int .i64 G.2.frm,.int .i64 G.2.mem,.int .i64 G.2.mode,.int .i64 G.2.slot,.int .i64 G.2.value],Bm ea G.1])∧Below wr.heap.size wr w'):=by
     have h:=Mf ea c.sent wr (hEr.1.sub (by simp)) hEr.2 (by have:=HI.out.sent_len;omega);rw[←hG] at h;exact h
    have HG:=zh hG;have HN:=zh hN;have HF4:=zh hF4;clear hfull hN hF hF4 hEr hG;obtain⟨EV,hEV⟩:∃EV,EV=Bm ea G.1:=⟨_,rfl⟩
    rw[←hEV] at C6
    have hev:(G.1=0∧EV=.nilIface)∨(G.1≠0∧∃t p,EV=.iface t p):=by
     by_cases h:G.1=0
     ·exact Or.inl ⟨h,by rw[hEV,h,Al]⟩
     ·exact Or.inr ⟨h,_,_,by rw[hEV,Ae ea h]⟩
    have HEV:=zh hev;clear hEV hev;obtain⟨BB,hBB⟩:∃BB:Bool,BB=decide (G.1=0):=⟨_,rfl⟩
    have HBB:=zh hBB;clear hBB;go_wp2_with fail;refine C6.out.mono ?_;rintro e w6⟨rfl,hb6⟩;have hb7:Below wr.heap.size wr (w6.alloc (.cells #[.int .i64 G.2.frm,.int .i64 G.2.mem,.int .i64 G.2.mode,.int .i64 G.2.slot,.int .i64 G.2.value] 256)):=hb6.alloc hb6.size _;obtain⟨W7,hW7⟩:∃W7,W7=w6.alloc (.cells #[.int .i64 G.2.frm,.int .i64 G.2.mem,.int .i64 G.2.mode,.int .i64 G.2.slot,.int .i64 G.2.value] 256):=⟨_,rfl⟩
    rw[←hW7] at hb7;have hN7:=zh (HN.out.below hb7);have hF7:=zh (HF4.out.off hb7);clear hb6 C6 hb7;go_upto_region 27 with(fail);rw[←hW7];clear hW7;go_cut [131] (fun s131 wx=>s131=.bool BB∧W7=wx)
    case first=>
     as_aux_lemma=>
      rcases HEV.out with⟨h0,rfl⟩|⟨h0,t0,p0,rfl⟩
      ·have hB:Hid (BB=true):=by unfold Hid;rw[HBB.out,decide_eq_true h0]
       clear h0;go_wp2_with fail;go_meet
       case rel=>exact⟨by rw[hB.out],rfl⟩
      ·have hB:Hid (BB=false):=by unfold Hid;rw[HBB.out,decide_eq_false h0]
       clear h0;go_wp2_with fail;go_meet
       case rel=>exact⟨by rw[hB.out],rfl⟩
    case rest=>
     obtain⟨rfl,rfl⟩:=hcut;go_upto_if 131 with(fail);go_cut [137] (fun _ wx=>Be wx L.mb (c.f2 lost) q4∧Fr (fun k=>k=L.mb) w wx)
     case first=>
      cases BB
      ·have hne:(Ak c.sent).1≠0:=by rw[←HG.out];exact of_decide_eq_false HBB.out.symm
       have hN8:=hN7.out;rw[←CP.f2_no (lost:=lost) hne] at hN8;have HN8:=zh hN8;clear hne hN8;go_wp2_with fail;go_meet
       case rel=>exact⟨HN8.out,hF7.out⟩
      ·have hes:(Ak c.sent).1=0:=by rw[←HG.out];exact of_decide_eq_true HBB.out.symm
       obtain⟨Y,hY,hYst,hf2⟩:=CP.f2_eq (lost:=lost) hes;rw[HWHO.out] at hY;have HF2:Hid (c.f2 lost=fun i=>(c.f1 lost i).map (NP.join Y lost i)):=funext hf2;have e3:=(H.out.map hF7.out (fun k _ e=>e) hq4 hN7.out).cells.2.2.2;have HY:=zh hY;have HYST:=zh hYst
       have HYL:Hid (Y.h.length≤1000):=by
        have h1:=((HI.out.f1 ht lost).2 who Y hY).on hYst;have:=h1.2.2.2.2.1
        show _≤_;omega
       have hwi0:=hwi;clear hes hf2 hY hYst;generalize c.f1 lost=f1 at *;go_wp2_with (at_range;refine El rfl _ rfl rfl hN7.out ?_;intro w8 hR8 hb8 hz8);go_frame;have hR8':Bb w8 L.mb W7.heap.size (Gm (fun i=>(f1 i).isSome) f1 (NP.join Y lost)) q4 (fun i=>(f1 i).isSome) q4:=by rw[Xv];exact hR8
       have hF8:Fr (fun k=>k=L.mb) w w8:=hF7.out.off hb8;go_loopw [137] (fun _ wr=>∃(left:Int→Bool) (cnt:Nat),Bb wr L.mb W7.heap.size (Gm left f1 (NP.join Y lost)) q4 left cnt∧Fr (fun k=>k=L.mb) w wr) (fun _ wr=>wr.rangeLeft L.mb W7.heap.size)
       case atStart=>exact⟨_,q4,hR8',hF8⟩
       case round=>
        clear hR8 hb8 hz8 hR8' hF8 e3;obtain⟨left,cnt,hR,hF⟩:=hrel;have HR:=zh hR;have HFx:=zh hF;clear hF;go_wp2_with (at_next;refine E0 rfl _ rfl rfl hR ?_ ?_)
        ·intro hc0 hl0
         have hN9:=HR.out.at;rw[zCp hl0,←HF2.out] at hN9;have HN9:=zh hN9;clear hc0 hl0 hN9 hR;go_wp2_with fail;go_meet
         case rel=>exact⟨HN9.out,HFx.out⟩
        ·intro i x sa sc w1 cnt1 hwi hli hgi hrow hR1 hlt hg1 hz1 hen
         rw[Xu hli] at hgi;have HZ1:=zh hz1;have hw7:w.heap.size≤W7.heap.size:=hF7.out.size;have hF1:Fr (fun k=>k=L.mb) w w1:=HFx.out.then (S':=fun k=>k=W7.heap.size) (Fr.grown hg1 (fun k e=>by injection e with e;exact e.symm)) (fun i e=>Or.inr (by omega));obtain⟨W2,hW2,S2,hb2,hz2,hc2⟩:=Ng w1 143 (.int .i64 x.st) (.int .i64 x.val) (.int .i64 x.m) (.int .i64 x.d) (.int .i64 x.s) (.slice sa x.h.length sc);have hF2:Fr (fun k=>k=L.mb) w W2:=hF1.off hb2;have HR2:=zh (hR1.below hb2);have HFy:=zh hF2;have hlr2:=HLR.out.fr hF2 (fun k e=>by subst e;obtain⟨es,clock,hm⟩:=H.out.nodes.choose_spec.2.map;exact⟨es,clock,hm⟩);have C4:=zh (Nx i la ln lc lost W2 HLL.out hlr2 (by omega));clear hz1 hg1 hF1 hF2 hc2 hlr2 hrow hR1 hR
         by_cases hst:x.st=1
         ·have hd:(x.st==1)=true:=by simpa using hst
          by_cases hil:i∈lost
          ·have hR3:Hid (Bb W2 L.mb W7.heap.size (Gm (fun j=>left j&&!(j==i)) f1 (NP.join Y lost)) q4 (fun j=>left j&&!(j==i)) cnt1):=by
            have h0:=HR2.out;rw[Ru hgi (by rw[NP.join,if_neg (fun e=>e.2 hil)])] at h0;exact h0
           have hb0:Hid (decide (i∈lost)=true):=decide_eq_true hil;rw[hb0.out] at C4;clear hst hil;go_wp2_with fail;rw[←hW2];clear hW2;refine C4.out.mono ?_;rintro e w'⟨rfl,rfl⟩;go_wp2;refine⟨⟨_,cnt1,hR3.out,HFy.out⟩,?_⟩;rw[hR3.out.left_eq,HR.out.left_eq];exact hlt
          ·have hb0:Hid (decide (i∈lost)=false):=decide_eq_false hil
           rw[hb0.out] at C4;have hJ:Hid (NP.join Y lost i x=⟨2,x.val,Y.m,Y.d,Y.s,Y.h⟩):=by unfold Hid NP.join;rw[if_pos ⟨hst,hil⟩]
           clear hst hil
           have hgw:Gm left f1 (NP.join Y lost) who=some Y:=by
            unfold Gm;rw[HY.out]
            split
            ·rfl
            ·rw[Option.map_some,NP.join,if_neg (fun e=>by have:=HYST.out;omega)]
           have e3:=(H.out.map HFy.out (fun k _ e=>e) hq4 HR2.out.at).cells.2.2.2;obtain⟨ya,yc,hlk0,hyr⟩:=HR2.out.at.at_some' hwi0 hgw;have hlk:=hlk0 W2 zb;obtain⟨W3,hW3,S3,hb3,hz3,hc3⟩:=Ng W2 143 (.int .i64 Y.st) (.int .i64 Y.val) (.int .i64 Y.m) (.int .i64 Y.d) (.int .i64 Y.s) (.slice ya Y.h.length yc);have hlC:L.cb<W3.heap.size:=by have:=HFy.out.size;have:=hb3.size;omega
           have hS0:W3.drew.cell? ⟨L.cb,3,none⟩=some (.map (some L.mb))∧W3.drew.cell? ⟨w1.heap.size,1,none⟩=some (.int .i64 x.val)∧W3.drew.cell? ⟨W2.heap.size,2,none⟩=some (.int .i64 Y.m)∧W3.drew.cell? ⟨W2.heap.size,3,none⟩=some (.int .i64 Y.d)∧W3.drew.cell? ⟨W2.heap.size,4,none⟩=some (.int .i64 Y.s)∧W3.drew.cell? ⟨W2.heap.size,5,none⟩=some (.slice ya Y.h.length yc):=
            ⟨(hb3.cell (p:=⟨L.cb,3,none⟩) (by have:=HFy.out.size;show L.cb<W2.heap.size;omega)).trans e3,(S2.below hb3).c1,S3.c2,S3.c3,S3.c4,S3.c5⟩
           have hlS:L.cb<W3.heap.size∧w1.heap.size<W3.heap.size∧W2.heap.size<W3.heap.size:=⟨hlC,(S2.below hb3).lt,S3.lt⟩;have hmS:L.mb≠L.cb∧L.mb≠w1.heap.size∧L.mb≠W2.heap.size:=⟨H.out.apart.2.1,by have:=HR.out.at.lt;have:=HZ1.out;omega,by have:=HFy.out.size;omega⟩;have hRd:=zh ((HR2.out.below hb3).below (Ab zb 1));have HF3:=zh (HFy.out.off hb3);have hyl:Y.h.length≤1000:=HYL.out;have KC:=zh (Gv ya Y.h.length yc Y.h W3.drew rfl (Cd ((hyr.below hb3).below (Ab zb 1))) (by omega));clear hgw hlk0 hyr hz3 hc3 hb3 hlC hz2 hb2;go_wp2_with fail;rw[←hW2];clear hW2;refine C4.out.mono ?_;rintro e w'⟨rfl,rfl⟩;go_upto_region 33 with(fail);rw[←hW3];clear hW3;refine wp_region_held_drew (S:=fun w'=>w'.cell? ⟨L.cb,3,none⟩=some (.map (some L.mb))∧w'.cell? ⟨w1.heap.size,1,none⟩=some (.int .i64 x.val)∧w'.cell? ⟨W2.heap.size,2,none⟩=some (.int .i64 Y.m)∧w'.cell? ⟨W2.heap.size,3,none⟩=some (.int .i64 Y.d)∧w'.cell? ⟨W2.heap.size,4,none⟩=some (.int .i64 Y.s)∧w'.cell? ⟨W2.heap.size,5,none⟩=some (.slice ya Y.h.length yc)) (by kernel_rfl) hS0 (fun hHeld=>?_);refine wpAnyH_take (i:=0) (v:=?_) rfl (by kernel_rfl) (by kernel_rfl) (by kernel_rfl) (fun _ _ _ h=>h) (Or.inl ⟨by rfl,?_⟩) (by assumption) ?_;rotate_left
           ·(intro w hSw;go_simp;try with_reducible rfl)
           try simp only[Act.put]
           try simp only[List.setIfInBounds_toArray]
           try simp only[List.set_cons_succ]
           try simp only[List.set_cons_zero]
           refine wpAnyH_take (i:=1) (v:=?_) rfl (by kernel_rfl) (by kernel_rfl) (by kernel_rfl) (fun _ _ _ h=>h) (Or.inl ⟨by rfl,?_⟩) (by assumption) ?_;rotate_left
           ·(intro w hSw;go_simp;try with_reducible rfl)
           try simp only[Act.put]
           try simp only[List.setIfInBounds_toArray]
           try simp only[List.set_cons_succ]
           try simp only[List.set_cons_zero]
           refine wpAnyH_take (i:=2) (v:=?_) rfl (by kernel_rfl) (by kernel_rfl) (by kernel_rfl) (fun _ _ _ h=>h) (Or.inl ⟨by rfl,?_⟩) (by assumption) ?_;rotate_left
           ·(intro w hSw;go_simp;try with_reducible rfl)
           try simp only[Act.put]
           try simp only[List.setIfInBounds_toArray]
           try simp only[List.set_cons_succ]
           try simp only[List.set_cons_zero]
           refine wpAnyH_take (i:=3) (v:=.map (some L.mb)) rfl (by kernel_rfl) (by kernel_rfl) (by kernel_rfl) (fun _ _ _ h=>h) (Or.inl ⟨by rfl,?_⟩) (by assumption) ?_
           ·(intro w hSw;obtain⟨s0,s1,s2,s3,s4,s5⟩:=hSw;go_simp)
           try simp only[Act.put]
           try simp only[List.setIfInBounds_toArray]
           try simp only[List.set_cons_succ]
           try simp only[List.set_cons_zero]
           refine wpAnyH_take (i:=4) (v:=?_) rfl (by kernel_rfl) (by kernel_rfl) (by kernel_rfl) (fun _ _ _ h=>h) (Or.inl ⟨by rfl,?_⟩) (by assumption) ?_;rotate_left
           ·(intro w hSw;go_simp;try with_reducible rfl)
           try simp only[Act.put]
           try simp only[List.setIfInBounds_toArray]
           try simp only[List.set_cons_succ]
           try simp only[List.set_cons_zero]
           refine wpAnyH_take (i:=5) (v:=?_) rfl (by kernel_rfl) (by kernel_rfl) (by kernel_rfl) (fun _ _ _ h=>h) (Or.inl ⟨by rfl,?_⟩) (by assumption) ?_;rotate_left
           ·(intro w hSw;go_simp;try with_reducible rfl)
           try simp only[Act.put]
           try simp only[List.setIfInBounds_toArray]
           try simp only[List.set_cons_succ]
           try simp only[List.set_cons_zero]
           refine wpAnyH_take (i:=6) (v:=.int .i64 x.val) rfl (by kernel_rfl) (by kernel_rfl) (by kernel_rfl) (fun _ _ _ h=>h) (Or.inl ⟨by rfl,?_⟩) (by assumption) ?_
           ·(intro w hSw;obtain⟨s0,s1,s2,s3,s4,s5⟩:=hSw;go_simp)
           try simp only[Act.put]
           try simp only[List.setIfInBounds_toArray]
           try simp only[List.set_cons_succ]
           try simp only[List.set_cons_zero]
           refine wpAnyH_take (i:=7) (v:=?_) rfl (by kernel_rfl) (by kernel_rfl) (by kernel_rfl) (fun _ _ _ h=>h) (Or.inl ⟨by rfl,?_⟩) (by assumption) ?_;rotate_left
           ·(intro w hSw;go_simp;try with_reducible rfl)
           try simp only[Act.put]
           try simp only[List.setIfInBounds_toArray]
           try simp only[List.set_cons_succ]
           try simp only[List.set_cons_zero]
           refine wpAnyH_take (i:=8) (v:=.agg #[.int .i64 Y.m,.int .i64 Y.d,.int .i64 Y.s]) rfl (by kernel_rfl) (by kernel_rfl) (by kernel_rfl) (fun _ _ _ h=>h) (Or.inl ⟨by rfl,?_⟩) (by assumption) ?_
           ·(intro w hSw;obtain⟨s0,s1,s2,s3,s4,s5⟩:=hSw;go_simp)
           try simp only[Act.put]
           try simp only[List.setIfInBounds_toArray]
           try simp only[List.set_cons_succ]
           try simp only[List.set_cons_zero]
           refine wpAnyH_take (i:=9) (v:=?_) rfl (by kernel_rfl) (by kernel_rfl) (by kernel_rfl) (fun _ _ _ h=>h) (Or.inl ⟨by rfl,?_⟩) (by assumption) ?_;rotate_left
           ·(intro w hSw;go_simp;try with_reducible rfl)
           try simp only[Act.put]
           try simp only[List.setIfInBounds_toArray]
           try simp only[List.set_cons_succ]
           try simp only[List.set_cons_zero]
           refine wpAnyH_take (i:=10) (v:=.slice ya Y.h.length yc) rfl (by kernel_rfl) (by kernel_rfl) (by kernel_rfl) (fun _ _ _ h=>h) (Or.inl ⟨by rfl,?_⟩) (by assumption) ?_
           ·(intro w hSw;obtain⟨s0,s1,s2,s3,s4,s5⟩:=hSw;go_simp)
           try simp only[Act.put]
           try simp only[List.setIfInBounds_toArray]
           try simp only[List.set_cons_succ]
           try simp only[List.set_cons_zero]
           refine wpAnyH_ready (rs:=[11]) (by kernel_rfl) (by simp) ?_;refine AllReadyH.cons rfl (fun K hK=>?_) AllReadyH.nil;go_simp;go_at_call 84;refine KC.out.mono ?_;rintro e w5⟨a5,c5,rfl,ho5,hb5⟩;go_wp2_with fail;have hS5:=zKe hS0 hb5 hlS;refine hK.out _ _ ?_ (fun hHeld=>?_)
           ·exact hS5
           clear hK K
           try simp only[Act.put]
           try simp only[List.setIfInBounds_toArray]
           try simp only[List.set_cons_succ]
           try simp only[List.set_cons_zero]
           refine wpAnyH_ready (rs:=[12]) (by kernel_rfl) (by simp) ?_;refine AllReadyH.cons rfl (fun K hK=>?_) AllReadyH.nil;go_simp;refine hK.out _ _ ?_ (fun hHeld=>?_)
           ·exact hS5
           clear hK K
           try simp only[Act.put]
           try simp only[List.setIfInBounds_toArray]
           try simp only[List.set_cons_succ]
           try simp only[List.set_cons_zero]
           refine wpAnyH_ready (rs:=[13]) (by kernel_rfl) (by simp) ?_;refine AllReadyH.cons rfl (fun K hK=>?_) AllReadyH.nil;have hR5:=hRd.out.below hb5;have hr5:Cx w5 (.slice a5 Y.h.length c5) Y.h:=C0 ho5 (Nat.zero_le _);refine Tb rfl _ _ _ rfl (x:=⟨2,x.val,Y.m,Y.d,Y.s,Y.h⟩) (sl:=.slice a5 Y.h.length c5) rfl hR5 rfl rfl hwi (by rw[Xu hli,hgi];rfl) hr5 ?_;intro wz hRz hgz hzz;rw[zCq hgi hJ.out] at hRz;refine hK.out _ _ ?_ (fun hHeld=>?_)
           ·exact zKd hS5 hgz hmS
           clear hK K
           try simp only[Act.put]
           try simp only[List.setIfInBounds_toArray]
           try simp only[List.set_cons_succ]
           try simp only[List.set_cons_zero]
           refine wpAnyH_done (by kernel_rfl) ?_ _;have HRZ:=zh hRz;have HFZ:Hid (Fr (fun k=>k=L.mb) w wz):=((HF3.out.drewN 1).off hb5).trans (Fr.grown hgz (fun k e=>by injection e with e;exact e.symm));clear hRz hgz hzz hR5 hr5 ho5 hb5 hS5 hHeld;go_wp2;go_roundw
           case rel=>(first|exact⟨_,cnt1,HRZ.out,HFZ.out⟩|((repeat apply Exists.intro);exact⟨⟨_,cnt1,HRZ.out,HFZ.out⟩,rfl⟩))
           case measure=>rw[HRZ.out.left_eq,HR.out.left_eq];exact hlt
         ·have hd:(x.st==1)=false:=by simpa using hst
          have hR3:Hid (Bb W2 L.mb W7.heap.size (Gm (fun j=>left j&&!(j==i)) f1 (NP.join Y lost)) q4 (fun j=>left j&&!(j==i)) cnt1):=by
           have h0:=HR2.out;rw[Ru hgi (by rw[NP.join,if_neg (fun e=>hst e.1)])] at h0;exact h0
          clear hst;go_wp2;rw[←hW2];go_roundw
          case rel=>exact⟨_,cnt1,hR3.out,HFy.out⟩
          case measure=>rw[hR3.out.left_eq,HR.out.left_eq];exact hlt
     case rest=>
      as_aux_lemma=>
       obtain⟨hN8,hF8⟩:=hcut;have hM8:=H.out.map hF8 (fun k _ e=>e) hq4 hN8;obtain⟨k0,k1,k2,k3⟩:=hM8.cells;have kf:wc.frozen? ⟨L.cb,1,none⟩=false:=frozen_of_row wc L.cb 1 _ _ hM8.blk;have hF9:Fr (fun k=>k=L.cb) wc (wc.setCell ⟨L.cb,1,none⟩ (.int .i64 ((c.time:Int)+1))):=(Fr.refl (fun k=>k=L.cb) wc).setCell (p:=⟨L.cb,1,none⟩) (Or.inl rfl) _
       have hM9:Ap (wc.setCell ⟨L.cb,1,none⟩ (.int .i64 ((c.time:Int)+1))) L ⟨c.plan,c.time+1,c.now,c.asked,c.f2 lost⟩:=by
        have hr:=hM8.rows;obtain⟨p1,p2,p3,p4,p5,p6⟩:=hM8.apart;obtain⟨a1,a2,a3,⟨q',hq',a4⟩,a6⟩:=hM8;exact⟨heap_setCell_same wc L.cb 1 _ _ _ a1,Dh a2 hF9 (fun k cur hk e=>hr k cur _ hk (Or.inl rfl) (Or.inl e)),a3.fr hF9 p1 p4,⟨q',hq',a4.fr hF9 p2 (fun k cur hk e=>hr k cur _ hk (Or.inr rfl) (Or.inl e))⟩,a6⟩
       have HM9:=zh hM9;have HF9:Hid (Fr L.own w (wc.setCell ⟨L.cb,1,none⟩ (.int .i64 ((c.time:Int)+1)))):=(hF8.own (fun k _ e=>Or.inr (Or.inr e))).trans (hF9.mono (fun k e=>Or.inl e));have hbt:(c.time:Int)<200:=by omega
       have hlp:1≤(c.plan.length:Int)∧(c.plan.length:Int)≤32:=by omega
       obtain⟨hlp1,hlp2⟩:=hlp;have hok2:=(HI.out.f2 ht lost).2;have KE:=zh (fun n:Nat=>Zj ea L ⟨c.plan,c.time+1,c.now,c.asked,c.f2 lost⟩ ((wc.setCell ⟨L.cb,1,none⟩ (.int .i64 ((c.time:Int)+1))).drewN n) (fun W hf=>(HE.out W (HF9.out.trans (((Fr.refl L.own _).drewN n).trans hf))).1.sub (by simp)) (HM9.out.drewN n) HI.out.plan (fun i x hx hst=>((hok2 i x hx).on hst).2.2.2.2.2) (by have:=HI.out.asked;dsimp only;omega))
       have hmt:((c.time:Int)+1).tmod (c.plan.length:Int)=(((c.time+1)%c.plan.length:Nat):Int):=by
        rw[Int.tmod_eq_emod_of_nonneg (by omega)];push_cast;rfl
       have hme:((c.time:Int)+1)%(c.plan.length:Int)=(((c.time+1)%c.plan.length:Nat):Int):=by push_cast;rfl
       clear hN8 hF8 hM8 hF9 hM9 hok2
       by_cases hz:(c.time+1)%c.plan.length=0
       ·have t1:(((c.time:Int)+1).tmod (c.plan.length:Int)==0)=true:=by rw[hmt,hz];rfl
        have t2:(((c.time:Int)+1)%(c.plan.length:Int)==0)=true:=by rw[hme,hz];rfl
        have HS:Hid (c.slot (Da c.plan.length) lost=⟨c.plan,c.time+1,c.turned,-1,fun i=>(c.f2 lost i).map (NP.endR (Da c.plan.length) c.turned)⟩):=by unfold Hid CP.slot;rw[if_pos hz]
        clear hmt hme hz;go_wp2;go_quiet (fail);go_wp2_with fail;refine(KE.out _).mono ?_;rintro e w9⟨rfl,hA9,hF9⟩;go_wp2;go_ret2;rw[HS.out];exact⟨rfl,hA9,HF9.out.trans (((Fr.refl L.own _).drewN _).trans hF9)⟩
       ·have t1:(((c.time:Int)+1).tmod (c.plan.length:Int)==0)=false:=by rw[hmt,beq_eq_false_iff_ne];omega
        have t2:(((c.time:Int)+1)%(c.plan.length:Int)==0)=false:=by rw[hme,beq_eq_false_iff_ne];omega
        have HS:Hid (c.slot (Da c.plan.length) lost=⟨c.plan,c.time+1,c.now,c.asked,c.f2 lost⟩):=by unfold Hid CP.slot;rw[if_neg hz]
        clear hmt hme hz KE;go_wp2;go_quiet (fail);go_wp2;go_ret2;rw[HS.out];exact⟨rfl,HM9.out.drewN _,HF9.out.drewN _⟩
end Go.Proofs.YtppfkokfnoeopaaGreatDoor
namespace Go.Proofs.YtppfkokfnoeopaaGreatDoor
open Go.RowKit Go.Proofs.Tryz
theorem Xc(b mb:Nat)(l:List (Int×Int))(now asked:Int)(w:World)(h:Eb w b mb l now asked) :
 Calls prog 85 #[.pointer (some ⟨b,0,none⟩)] w fun e w'=>∃c,e=.returned (.pointer (some ⟨c,0,none⟩))∧w.heap.size≤c∧Eb w' c mb l now asked∧Below w.heap.size w w':=by
 obtain⟨h1,h2,h3⟩:=h;have c0:w.cell? ⟨b,0,none⟩=some (.map (some mb)):=cell_of_row w b 0 _ _ _ h1;have c1:w.cell? ⟨b,1,none⟩=some (.int .i64 now):=cell_of_row w b 1 _ _ _ h1;have c2:w.cell? ⟨b,2,none⟩=some (.int .i64 asked):=cell_of_row w b 2 _ _ _ h1;have hlt:b<w.heap.size:=(Array.getElem?_eq_some_iff.1 h1).1;have H3:=zh h3;clear h1 h2 h3;go_enter func85,ntmps85;go_wp2;go_still_tail 13,(by kernel_rfl)
 have hRB:∀m:Nat,Eb ((w.drewN m).alloc (.cells #[.map (some mb),.int .i64 now,.int .i64 asked] 210)) w.heap.size mb l now asked:=fun m=>by
  have h1:=heap_alloc_new (w.drewN m) (.cells #[.map (some mb),.int .i64 now,.int .i64 asked] 210);have hm:=H3.out.lt;exact⟨by simpa using h1,by omega,(H3.out.drewN m).kept (Bw (zb.alloc zl _) none) (by simp)⟩
 have HRB:=zh hRB;clear hRB;go_wp2;go_ret;exact⟨_,rfl,Nat.le_refl _,HRB.out _,(Ab zb _).alloc (by simp) _⟩
end Go.Proofs.YtppfkokfnoeopaaGreatDoor
namespace Go.Proofs.YtppfkokfnoeopaaGreatDoor
open Go.RowKit Go.Maps Go.Proofs.Tryz
structure Pq(b:Nat)(L:CL):Prop where
 cb:b≤L.cb
 bb:b≤L.bb
 mb:b≤L.mb
theorem zCc(L:CL)(c:CP)(w:World)(h:Ap w L c)(hl:∀i x,c.f i=some x→x.h.length≤1000) :
 Calls prog 37 #[.pointer (some ⟨L.cb,0,none⟩)] w fun e w'=>∃L':CL,e=.returned (.pointer (some ⟨L'.cb,0,none⟩))∧Ap w' L' c∧Pq w.heap.size L'∧Below w.heap.size w w':=by
 obtain⟨c0,c1,c2,c3⟩:=h.cells;obtain⟨l1,l2,l3,l4⟩:=h.lt;obtain⟨q,hq,hN⟩:=h.nodes;have H:=zh h;have HN:=zh hN;have HL:=zh hl;have hmm:=@run_makeMap prog;clear h hN hl;go_enter func37,ntmps37;have hb1:Below w.heap.size w (w.alloc (.map #[] 0)):=zb.alloc zl _;have k3:=(hb1.cell (p:=⟨L.cb,3,none⟩) l1).trans c3;have HN1:=zh (HN.out.below hb1);have HM1:=zh (Be.made w);go_wp2_with (first|(at_range;refine El rfl _ rfl rfl HN1.out ?_;intro w0 hR0 hb0 hz0)|fail);go_frame;have hz1:(w.alloc (.map #[] 0)).heap.size=w.heap.size+1:=by simp
 have hM0:Be w0 w.heap.size (fun i=>if (c.f i).isSome then none else c.f i) 0:=by
  have e:(fun i=>if (c.f i).isSome then none else c.f i)=fun _=>(none:Option NP):=funext fun i=>by cases c.f i<;>rfl
  rw[e];exact HM1.out.below hb0
 have hbw:Below w.heap.size w w0:=hb1.trans (hb0.mono (by simp));rw[hz1] at hR0 ⊢;go_loopw [12] (fun _ wr=>∃(left:Int→Bool) (cnt q2:Nat),Bb wr L.mb (w.heap.size+1) c.f q left cnt∧Be wr w.heap.size (fun i=>if left i then none else c.f i) q2∧q2+cnt≤q∧Below w.heap.size w wr) (fun _ wr=>wr.rangeLeft L.mb (w.heap.size+1))
 case atStart=>exact⟨_,q,0,hR0,hM0,by omega,hbw⟩
 case round=>
  clear hR0 hM0 hbw hb0 hb1 HN1 HM1 hz1 hmm k3;obtain⟨left,cnt,q2,hR,hM,hqc,hb⟩:=hrel;have HM:=zh hM;have HR:=zh hR;have HB:=zh hb;clear hM hb;go_wp2_with (at_next;refine E0 rfl _ rfl rfl hR ?_ ?_)
  ·intro hc0 hl0
   have hMd:Be wr w.heap.size c.f q2:=by
    have e:(fun i=>if left i=true then none else c.f i)=c.f:=funext fun i=>by rw[hl0 i];rfl
    have hM:=HM.out;rw[e] at hM;exact hM
   have hcd:=H.out.below HB.out;have hbd:Below w.heap.size w wr.drew:=Ab HB.out 1;have C:=zh (Xc L.bb L.mm B9 c.now c.asked wr.drew (hcd.below (Ab zb 1)).board);obtain⟨k0,k1,k2,k3⟩:=(hcd.drewN 1).cells;have k0:wr.drew.cell? ⟨L.cb,0,none⟩=_:=k0;have k1:wr.drew.cell? ⟨L.cb,1,none⟩=_:=k1;have k2:wr.drew.cell? ⟨L.cb,2,none⟩=_:=k2;have hlw:=(hcd.drewN 1).lt.1;have HMd:=zh hMd;have HCd:=zh hcd;clear hMd hcd c0 c1 c2 c3 k3;go_wp2
   go_region_held3 (fun w'=>w'.cell? ⟨L.cb,0,none⟩=some (.slice L.pa c.plan.length L.pc)∧w'.cell? ⟨L.cb,1,none⟩=some (.int .i64 c.time)∧w'.cell? ⟨L.cb,2,none⟩=some (.pointer (some ⟨L.bb,0,none⟩))) (go_keep)
    ((go_at_call 85;(with_reducible refine C.out.mono ?_);rintro e w7⟨cb',rfl,hcb',hB7,hb7⟩;have d0:=(hb7.cell (p:=⟨L.cb,0,none⟩) hlw).trans k0;have d1:=(hb7.cell (p:=⟨L.cb,1,none⟩) hlw).trans k1;have d2:=(hb7.cell (p:=⟨L.cb,2,none⟩) hlw).trans k2;have HB7:=zh hB7;clear hB7))
   go_wp2;go_ret;have hlt7:w7.heap.size=w7.heap.size:=rfl;have hfin:Below w.heap.size w (w7.alloc (.cells #[.slice L.pa c.plan.length L.pc,.int .i64 c.time,.pointer (some ⟨cb',0,none⟩),.map (some w.heap.size)] 141)):=(hbd.trans (hb7.mono hbd.size)).alloc (Nat.le_trans hbd.size hb7.size) _;have hal:Below w7.heap.size w7 (w7.alloc (.cells #[.slice L.pa c.plan.length L.pc,.int .i64 c.time,.pointer (some ⟨cb',0,none⟩),.map (some w.heap.size)] 141)):=zb.alloc zl _;have hpl:=((HCd.out.below (Ab zb 1)).below hb7).below hal;have hmm:=H.out.lt;refine⟨⟨w7.heap.size,cb',w.heap.size,L.mm,L.pa,L.pc⟩,rfl,⟨?_,hpl.plan,HB7.out.kept (Bw hal none) (by simp) (by simp),⟨q2,by omega,((HMd.out.below (Ab zb 1)).below hb7).below hal⟩,by dsimp only;omega⟩,⟨Nat.le_trans hbd.size hb7.size,Nat.le_trans hbd.size hcb',Nat.le_refl _⟩,hfin⟩;exact World.alloc_heap_new w7 _
  ·intro i x sa sc w1 cnt1 hwi hli hgi hrow hR1 hlt hg1 hz1 hen
   have hb1:Below w.heap.size w w1:=HB.out.grown hg1 HB.out.size (fun j e=>by injection e with e;omega);have hM1:=HM.out;have HZ1:=zh hz1;clear hz1;obtain⟨W2,hW2,S2,hb2,hz2,hc2⟩:=Ng w1 143 (.int .i64 x.st) (.int .i64 x.val) (.int .i64 x.m) (.int .i64 x.d) (.int .i64 x.s) (.slice sa x.h.length sc);have K:=zh (Gv sa _ sc x.h W2 rfl (Cd (hrow.below hb2)) (by have:=HL.out i x hgi;omega))
   have HM1:Hid (Be w1 w.heap.size (fun i=>if left i then none else c.f i) q2):=hM1.fr (S:=fun k=>k=w.heap.size+1) (Fr.grown hg1 (fun k e=>by injection e with e;exact e.symm)) (by omega) (fun k cur hk e=>by
    obtain⟨s,seen,c,hi⟩:=HR.out.iter
    subst e;rw[hi] at hk;cases hk)
   clear hM1 hc2 hz2;go_wp2_with fail;rw[←hW2];refine K.out.mono ?_;rintro e w3⟨a',cap',rfl,ho3,hb3⟩;obtain⟨⟨cur3,ho⟩,n0,n1,n2,n3,n4,n5,nf,nl⟩:=S2.below hb3;have f5:=nf 5;have hR3:Hid (Bb (w3.setCell ⟨w1.heap.size,5,none⟩ (.slice a' x.h.length cap')) L.mb (w.heap.size+1) c.f q (fun j=>left j&&!(j==i)) cnt1):=((hR1.below hb2).below hb3).setCell (p:=⟨w1.heap.size,5,none⟩) ho (by decide) _;have hM3:Hid (Be (w3.setCell ⟨w1.heap.size,5,none⟩ (.slice a' x.h.length cap')) w.heap.size (fun i=>if left i then none else c.f i) q2):=((HM1.out.below hb2).below hb3).setCell (p:=⟨w1.heap.size,5,none⟩) ho (by decide) _
   have hr3:Hid (Cx (w3.setCell ⟨w1.heap.size,5,none⟩ (.slice a' x.h.length cap')) (.slice a' x.h.length cap') x.h):=by
    have h0:Cx w3 (.slice a' x.h.length cap') x.h:=C0 ho3 (Nat.zero_le _)
    exact h0.fr (S:=fun k=>k=w1.heap.size) ((Fr.refl (fun k=>k=w1.heap.size) w3).setCell (p:=⟨w1.heap.size,5,none⟩) (Or.inl rfl) _) (fun k cur hk e=>by
     subst e;rw[ho] at hk;injection hk with hk;injection hk with _ e2;revert e2;decide)
   have HB3:Hid (Below w.heap.size w (w3.setCell ⟨w1.heap.size,5,none⟩ (.slice a' x.h.length cap'))):=(Ar (Ar hb1 hb2) hb3).setCell (by have:=hb1.size;simpa using this) _;have HO:=zh ho;have HO3:=zh ho3;clear hb3 ho3 ho hb2 hb1 hR1 hrow hg1;go_wp2_with (at_mapUpdate;refine Ek rfl _ _ _ rfl (mb:=w.heap.size) (g:=fun i=>if left i then none else c.f i) (q:=q2) (i:=i) (x:=x) (sl:=.slice a' x.h.length cap') rfl hM3.out (by omega) rfl rfl hwi hr3.out ?_;intro w5 hN5 hg5);obtain⟨es,clock,hmap⟩:=hM3.out.map;have hR5:Hid (Bb w5 L.mb (w.heap.size+1) c.f q (fun j=>left j&&!(j==i)) cnt1):=hR3.out.other (by omega) hmap hg5
   have hN6:Hid (Be w5 w.heap.size (fun j=>if (left j&&!(j==i))=true then none else c.f j) (q2+1)):=by
    have e1:Ge (fun i=>if left i then none else c.f i) i x=fun j=>if (left j&&!(j==i))=true then none else c.f j:=funext fun j=>by
     unfold Ge
     by_cases e:j=i
     ·subst e;simp[hgi]
     ·have e2:(j==i)=false:=by simpa using e
      rw[if_neg e,e2];simp
    have h0:=hN5;rw[e1] at h0;simp only[hli,if_true,Option.isSome_none,Bool.false_eq_true,if_false] at h0;exact h0
   have HB5:Hid (Below w.heap.size w w5):=HB3.out.grown hg5 HB3.out.size (fun j e=>by injection e with e;omega);clear hN5 hg5 hmap;go_roundw
   case rel=>(repeat apply Exists.intro);exact⟨⟨_,cnt1,q2+1,hR5.out,hN6.out,by omega,HB5.out⟩,rfl⟩
   case measure=>rw[hR5.out.left_eq,HR.out.left_eq];exact hlt
theorem zCy:(prog.info? 176).map (fun i=>(i.zero,i.size,i.bytes))=some (some (.agg #[.int .i64 0,.int .i64 0]),2,16):=by kernel_rfl
def zHt(ea:Nat→Addr)(l:List (Int×Int))(w:World)(e:Ending)(w':World):Prop:=
 ((∀p∈l,G2 p=true)∧∃b,e=.returned (.tuple #[.pointer (some ⟨b,0,none⟩),.nilIface])∧w.heap.size≤b∧Gu w' b l 0 (-1)∧Below w.heap.size w w')
 ∨(∃i,∃h:i<l.length,G2 l[i]=false∧(∀j,∀h':j<i,G2 (l[j]'(by omega))=true)∧∃v,e=.returned (.tuple #[.pointer none,v])∧Bg ea w' v 2 i∧Below w.heap.size w w')
theorem zIn(ea:Nat→Addr)(a:Option Addr)(n cap:Nat)(l:List (Int×Int))(w:World)(hg:Bh w ea [2])(hn:l.length=n)(hr:Ac w a (E9 l))(h:n≤16) :
 Calls prog 116 #[.slice a n cap] w (zHt ea l w):=by
 have HN:=zh hn;have hmm:=@run_makeMap prog;have H2:=zh (Ae ea (k:=2) (by decide));clear hn;go_enter func116,ntmps116;go_wp2;have hb0:Below w.heap.size w ((w.alloc (.map #[] 0)).alloc (.cells #[.map (some w.heap.size),.int .i64 0,.int .i64 (-1)] 210)):=(zb.alloc zl _).alloc (by simp) _
 have hB0:Hid (((w.alloc (.map #[] 0)).alloc (.cells #[.map (some w.heap.size),.int .i64 0,.int .i64 (-1)] 210)).heap[w.heap.size+1]?=some (.cells #[.map (some w.heap.size),.int .i64 0,.int .i64 (-1)] 210 (0,0))):=by
  have h1:=heap_alloc_new (w.alloc (.map #[] 0)) (.cells #[.map (some w.heap.size),.int .i64 0,.int .i64 (-1)] 210);unfold Hid;simpa using h1
 have hM0:D6 ((w.alloc (.map #[] 0)).alloc (.cells #[.map (some w.heap.size),.int .i64 0,.int .i64 (-1)] 210)) w.heap.size []:=⟨0,Nat.le_refl _,(World.ownsMap_made w _ _ _).alloc _⟩;go_loopw [16] (fun i wr=>∃k:Nat,k≤n∧i=.int .i64 k∧Hid (∀p∈l.take k,G2 p=true)∧Hid (wr.heap[w.heap.size+1]?=some (.cells #[.map (some w.heap.size),.int .i64 0,.int .i64 (-1)] 210 (0,0)))∧D6 wr w.heap.size (l.take k)∧Below w.heap.size w wr) (fun i _=>n-(intOf i).toNat)
 case atStart=>exact⟨0,Nat.zero_le _,rfl,by unfold Hid;simp,hB0,hM0,hb0⟩
 case round=>
  clear hb0 hB0 hM0 hmm;obtain⟨k,hk,rfl,HA,HB,hM,hb⟩:=hrel;have hsz:=hb.size;have hlt1:w.heap.size+1<wr.heap.size:=(Array.getElem?_eq_some_iff.1 HB.out).1
  by_cases hlt:k<n
  ·have hkt:k<l.length:=by have:=HN.out;omega
   obtain⟨b,off,rfl,hbl,c0,c1⟩:=hr.pair k hkt;have ht:Hid (l.take (k+1)=l.take k++[l[k]]):=List.take_succ_eq_append_getElem hkt;have d0:=(hb.cell (p:=⟨b,off+k*2,none⟩) hbl).trans c0;have d1:=(hb.cell (p:=⟨b,off+k*2+1,none⟩) hbl).trans c1;have hi0:(0:Int)≤(k:Int):=by omega
   have hi1:(k:Int)<(n:Int):=by omega
   have hbx:Below w.heap.size w (wr.alloc (.cells #[.int .i64 l[k].1,.int .i64 l[k].2] 176)):=hb.alloc hsz _;clear c0 c1
   cases hp:G2 l[k]
   ·have HP:=zh hp
    have hA:∀j,∀h':j<k,G2 (l[j]'(by omega))=true:=fun j h'=>HA.out _ (by
     have:(l.take k)[j]'(by simp;omega)=l[j]'(by omega):=List.getElem_take
     rw[←this];exact List.getElem_mem _)
    have HAA:=zh hA;have g2:=(hg.below hbx).cell 2 (by simp);simp only[gOf] at g2;rw[H2.out] at g2;clear hp hA;generalize hs:l[k]=s at *;have HS:=zh hs;clear hs
    cases hm1:Dj s.1
    ·have HM1:=zh hm1
     clear hm1;go_wp2_with (go_at_call 165;refine(Gd _ _).mono ?_;rintro e w1⟨rfl,rfl⟩;rw[HM1.out]);go_region;go_wp2;go_ret2;refine Or.inr ⟨k,hkt,by rw[HS.out];exact HP.out,HAA.out,_,rfl,?_,?_⟩
     ·exact Or.inr ⟨by omega,by decide,_,rfl,by simp,by simp,by simp;exact H2.out.symm⟩
     ·exact(Ab hbx 1).alloc (by simp;omega) _
    ·have hm2:Dj s.2=false:=by
      have h2:=HP.out;rw[G2,hm1,Bool.true_and] at h2;exact h2
     have HM1:=zh hm1;have HM2:=zh hm2;clear hm1 hm2;go_wp2_with fail;refine(Gd _ _).mono ?_;rintro e w1⟨rfl,rfl⟩;rw[HM1.out];go_wp2_with fail;refine(Gd _ _).mono ?_;rintro e w1⟨rfl,rfl⟩;rw[HM2.out];go_wp2;go_region;go_wp2;go_ret2;refine Or.inr ⟨k,hkt,by rw[HS.out];exact HP.out,HAA.out,_,rfl,?_,?_⟩
     ·exact Or.inr ⟨by omega,by decide,_,rfl,by simp,by simp,by simp;exact H2.out.symm⟩
     ·exact(Ab hbx 1).alloc (by simp;omega) _
   ·have hA2:Hid (∀p∈l.take (k+1),G2 p=true):=by
     unfold Hid;rw[ht.out];intro p hp'
     rcases List.mem_append.1 hp' with h1|h1
     ·exact HA.out p h1
     ·rw[List.mem_singleton.1 h1];exact hp
    have hm1:Dj l[k].1=true:=by simp only[G2,Bool.and_eq_true] at hp;exact hp.1
    have hm2:Dj l[k].2=true:=by simp only[G2,Bool.and_eq_true] at hp;exact hp.2
    have hlen:(l.take k).length≤16:=Nat.le_trans (List.length_take_le _ _) (by omega);generalize l[k]=s at *;have HM1:=zh hm1;have HM2:=zh hm2
    have hcb:(wr.alloc (.cells #[.int .i64 s.1,.int .i64 s.2] 176)).cell? ⟨w.heap.size+1,0,none⟩=some (.map (some w.heap.size)):=by
     rw[World.cell?_alloc_lt _ _ ⟨w.heap.size+1,0,none⟩ hlt1];exact cell_of_row wr _ 0 _ _ _ HB.out
    obtain⟨m,hml,hown⟩:=hM;clear hm1 hm2 hp hkt;go_wp2_with fail;refine(Gd _ _).mono ?_;rintro e w1⟨rfl,rfl⟩;rw[HM1.out];go_wp2_with fail;refine(Gd _ _).mono ?_;rintro e w1⟨rfl,rfl⟩;rw[HM2.out];go_wp2;have e0:(wr.alloc (.cells #[.int .i64 s.1,.int .i64 s.2] 176)).cell? ⟨wr.heap.size,0,none⟩=some (.int .i64 s.1):=by simp
    have e1:(wr.alloc (.cells #[.int .i64 s.1,.int .i64 s.2] 176)).cell? ⟨wr.heap.size,1,none⟩=some (.int .i64 s.2):=by simp
    have hown2:=hown.alloc (.cells #[.int .i64 s.1,.int .i64 s.2] 176);have hz2:(wr.alloc (.cells #[.int .i64 s.1,.int .i64 s.2] 176)).heap.size=wr.heap.size+1:=by simp
    have hB2:Hid ((wr.alloc (.cells #[.int .i64 s.1,.int .i64 s.2] 176)).heap[w.heap.size+1]?=some (.cells #[.map (some w.heap.size),.int .i64 0,.int .i64 (-1)] 210 (0,0))):=by
     unfold Hid;exact((Bw ((Below.refl wr.heap.size wr).alloc zl _) none).block (w.heap.size+1) hlt1 (by simp)).trans HB.out
    obtain⟨W2,hW2⟩:∃W2,W2=wr.alloc (.cells #[.int .i64 s.1,.int .i64 s.2] 176):=⟨_,rfl⟩
    rw[←hW2] at e0 e1 hown2 hcb hbx hB2 hz2 ⊢;have HZ2:=zh hz2;clear hW2 hz2;go_still_tail 5,(by kernel_rfl)
    change wpList _ _ _ _ _ W2.drew
    go_wp2_with (at_mapUpdate;refine wpList_mapUpdate_own _ rfl _ _ _ 208 rfl 176 4 Mj underlying208 _ w.heap.size m _ rfl hown2.drew (by unfold maxLen;omega) _ _ _ rfl rfl (Rz HM1.out HM2.out) _ [] (plainElem_bool underlying4 true) ?_;intro w3 hown3 hgrow3);have hb3:Below w.heap.size w w3:=(Ab hbx 1).grown hgrow3 hbx.size (fun j e=>by cases e;exact Nat.le_refl _)
    have HB3:Hid (w3.heap[w.heap.size+1]?=some (.cells #[.map (some w.heap.size),.int .i64 0,.int .i64 (-1)] 210 (0,0))):=by
     unfold Hid;rw[hgrow3.block (w.heap.size+1) (by show w.heap.size+1<W2.heap.size;rw[HZ2.out];omega) (by simp)];exact hB2.out
    go_roundw
    case rel=>exact⟨k+1,by omega,by go_num,hA2,HB3,⟨m+1,by rw[ht.out,List.length_append,List.length_singleton];omega,by rw[ht.out,zC3];exact hown3⟩,hb3⟩
    case measure=>simp[intOf];omega
  ·have ht:l.take k=l:=List.take_of_length_le (by have:=HN.out;omega)
   rw[ht] at hM;have HA2:Hid (∀p∈l,G2 p=true):=by unfold Hid at HA ⊢;rw[ht] at HA;exact HA
   clear ht;go_wp2;go_ret2;exact Or.inl ⟨HA2.out,w.heap.size+1,rfl,by omega,⟨w.heap.size,HB.out,by omega,hM⟩,hb⟩
theorem To(a:Option Addr)(n cap:Nat)(es:List Int)(w:World)(hn:es.length=n)(hr:Ac w a (Aa es))(hc:n≤4398046511104) :
 Calls prog 117 #[.slice a n cap] w fun e w'=>∃a' cap',e=.returned (.slice a' n cap')∧w'.ownsRow w.heap.size 3 1 (.slice a' n cap') n (Aa es)∧Below w.heap.size w w':=by
 have HN:=zh hn;obtain⟨i0,hi,hz0,hz1,hz2⟩:=info_parts Ga;have hi':=zh hi;have hz0':=zh hz0;have hz1':=zh hz1;have hz2':=zh hz2;clear hi hz0 hz1 hz2 hn;have hq:=fun(W:World) (a:Option Addr) (l c:Nat)=>Lib.run_eql_slice_nil (P:=prog) W 72 3 a l c 0 0 underlying72
 cases a with
 | none=>
  have hnil:es=[]:=by
   rcases hr with h|⟨b,off,h,_⟩
   ·have:=Ci es;rw[h] at this;exact List.eq_nil_of_length_eq_zero (by simp at this;omega)
   ·cases h
  have h0:n=0:=by have:=HN.out;rw[hnil] at this;exact this.symm
  subst h0;have HNIL:=zh hnil;clear hnil;go_enter func117,ntmps117;go_wp2;go_ret;exact⟨none,0,rfl,by rw[HNIL.out];exact World.ownsRow_nil _ _ _ _,Below.refl _ _⟩
 | some ad=>
  have hown:(w.alloc (.cells #[] 3)).ownsRow w.heap.size 3 1 (.slice (some ⟨w.heap.size,0,none⟩) 0 0) 0 []:=World.ownsRow_made w #[] 0 zl (by simp[maxLen]) rfl;go_enter func117,ntmps117;go_wp2_with (at_builtin;refine Ag _ rfl (.tmp 5) (.tmp 6) 72 rfl w.heap.size 3 i0 _ 1 8 underlying72 hi'.out hz0'.out hz1'.out hz2'.out rfl (by decide) (.slice (some ⟨w.heap.size,0,none⟩) 0 0) 0 [] rfl ?_ _ n cap (Aa es) rfl (by rw[Ci,HN.out];omega) ?_ ?_ ?_ ?_ ?_ ?_;exact hown;exact hr.below (zb.alloc zl _);exact Fy _;unfold maxLen;omega;omega;(simp);intro v1 w5 ho1 hg1 hq hm1;clear hq hm1);go_ret;obtain⟨a',cap',rfl⟩:=Aj ho1;rw[List.nil_append,Nat.zero_add] at ho1;refine⟨a',cap',by simp,ho1,(zb.alloc zl _).grown hg1 (by simp) (fun j e=>?_)⟩;simp[Value.ownBlock] at e;omega
def Tv(ds:List Int)(all:Int):Int→Option NP:=fun i=>if i∈ds then some ⟨2,0,all,0,0,[]⟩ else none
theorem zGi(all:Int):Tv [] all=fun _=>none:=funext fun i=>by simp[Tv]
theorem zGj(ds:List Int)(all i:Int):Ge (Tv ds all) i ⟨2,0,all,0,0,[]⟩=Tv (ds++[i]) all:=funext fun j=>by
 unfold Ge Tv
 by_cases e:j=i
 ·subst e;simp
 ·simp[e]
theorem zGp{n:Int}(h:Aq n=true):(Lit.int .i64 n).wf=true:=by
 simp only[Aq,decide_eq_true_eq] at h;have h1:IntKind.i64.min=-9223372036854775808:=by decide +kernel
 have h2:IntKind.i64.max=9223372036854775807:=by decide +kernel
 simp only[Lit.wf,Bool.and_eq_true,decide_eq_true_eq,h1,h2];omega
theorem Ac.frN{S:Nat→Prop}{w w':World}{a:Option Addr}{cs:List Value}(h:Ac w a cs)(hf:Fr S w w')(hS:∀k,S k→∃es clock,w.heap[k]?=some (.map es clock)):Ac w' a cs:=by
 rcases h with h|⟨b,off,rfl,hlt,hc⟩
 ·exact Or.inl h
 ·by_cases hcs:cs=[]
  ·exact Or.inl hcs
  ·obtain⟨v,r,rfl⟩:=List.exists_cons_of_ne_nil hcs
   have hn:¬S b:=fun hs=>by
    obtain⟨es,clock,hm⟩:=hS b hs;have:=hc 0 v rfl;simp[World.cell?,hm] at this
   refine Or.inr ⟨b,off,rfl,Nat.lt_of_lt_of_le hlt hf.size,fun i u hu=>?_⟩;have h1:=hc i u hu;simp only[World.cell?,hf.block b hlt hn] at h1 ⊢;exact h1
theorem zAi(k:Nat)(hk:k<16):B9.take (k+1)=B9.take k++[(((k/4:Nat):Int),((k%4:Nat):Int))]:=by
 have h:∀k:Fin 16,B9.take (k.val+1)=B9.take k.val++[(((k.val/4:Nat):Int),((k.val%4:Nat):Int))]:=by decide
 exact h ⟨k,hk⟩
theorem zE6(ea:Nat→Addr)(a:Option Addr)(n cap:Nat)(l:List Int)(w:World)(hg:Bh w ea [5,7,4])(hn:l.length=n)(hr:Ac w a (Aa l))(hc:n≤4611686018427387904)(hb:(Ay l).1≠0) :
 Calls prog 69 #[.slice a n cap] w fun e w'=>∃v,e=.returned (.tuple #[.pointer none,v])∧Bg ea w' v (Ay l).1 (Ay l).2∧Below w.heap.size w w':=by
 have C:=zh (Oq ea a n cap l w hg hn hr hc);have HB:=zh hb;clear hg hn hr hb;go_enter func69,ntmps69;go_wp2_with fail;refine C.out.mono ?_;rintro e w1⟨v,rfl,hE,hb1⟩;obtain⟨t,x,rfl⟩:=hE.held HB.out;have HE:=zh hE;clear hE;go_wp2;go_ret2;exact⟨_,rfl,HE.out,hb1⟩
theorem zBk(ea:Nat→Addr)(a:Option Addr)(n cap:Nat)(l:List Int)(w:World)(hg:Bh w ea [2,5,7,4])(hn:l.length=n)(hr:Ac w a (Aa l))(hp:(Ay l).1=0) :
 Calls prog 69 #[.slice a n cap] w fun e w'=>∃L:CL,e=.returned (.tuple #[.pointer (some ⟨L.cb,0,none⟩),.nilIface])∧Ap w' L (CP.new l)∧Pq w.heap.size L∧Below w.heap.size w w':=by
 have hpl:=Ai hp;have C:=zh (Oq ea a n cap l w (hg.sub (by simp)) hn hr (by omega));rw[hpl.1,Mn,if_pos hp] at C;obtain⟨i0,hi,hz0,hz1,hz2⟩:=info_parts zCy;have hi':=zh hi;have hz0':=zh hz0;have hz1':=zh hz1;have hz2':=zh hz2;have HG:=zh hg;have HN:=zh hn;have HR:=zh hr;have HPL:=zh hpl;clear hi hz0 hz1 hz2 hg hn hr hpl hp;go_enter func69,ntmps69;go_wp2_with fail;refine C.out.mono ?_;rintro e w1⟨v,rfl,hE,hb1⟩;obtain rfl:=hE.nil;clear hE;generalize hall:((A6 l:Nat):Int)=all at *;have HALL:=zh hall;clear hall C;go_wp2;go_loopw [6,21] (fun v i wr=>∃k:Nat,k≤4∧i=.int .i64 k∧wr.ownsRow w1.heap.size 176 2 v (4*k) (E9 (B9.take (4*k)))∧Below w1.heap.size w1 wr) (fun _ i _=>4-(intOf i).toNat)
 case atStart=>exact⟨0,by omega,rfl,World.ownsRow_nil _ _ _ _,Below.refl _ _⟩
 case round=>
  obtain⟨k,hk,rfl,ho,hb⟩:=hrel
  by_cases hlt:k<4
  ·have hi1:(k:Int)<4:=by omega
   have hk0:(0:Int)≤(k:Int):=by omega
   obtain⟨wo,rfl⟩:∃wo:World,wo=wr:=⟨_,rfl⟩
   have HBO:=zh hb;clear hb;go_wp2;go_loopw [6,24] (fun v j wr=>∃m:Nat,m≤4∧j=.int .i64 m∧wr.ownsRow w1.heap.size 176 2 v (4*k+m) (E9 (B9.take (4*k+m)))∧Below w1.heap.size w1 wr) (fun _ j _=>4-(intOf j).toNat)
   case atStart=>exact⟨0,by omega,rfl,ho,HBO.out⟩
   case round=>
    clear ho;obtain⟨m,hm,rfl,ho,hb⟩:=hrel
    by_cases hlm:m<4
    ·have hj1:(m:Int)<4:=by omega
     have hm0:(0:Int)≤(m:Int):=by omega
     have ht:=zh (zAi (4*k+m) (by omega));have e1:(4*k+m)/4=k:=by omega
     have e2:(4*k+m)%4=m:=by omega
     have ht2:Hid (B9.take (4*k+(m+1))=B9.take (4*k+m)++[((k:Int),(m:Int))]):=by
      have h:=ht.out;rw[e1,e2] at h;exact h
     have HO:=zh ho;have HB:=zh hb;have hsz:=hb.size;clear ho hb e1 e2 ht;go_wp2_with (at_builtin;refine Ag _ rfl (.tmp 27) (.tmp 31) 174 rfl w1.heap.size 176 i0 _ 2 16 underlying174 hi'.out hz0'.out hz1'.out hz2'.out rfl (by decide) u6 (4*k+m) (E9 (B9.take (4*k+m))) rfl ?_ (some ⟨wr.heap.size,0,none⟩) 1 1 (Sk ((k:Int),(m:Int))) rfl rfl ?_ ?_ ?_ ?_ ?_ ?_;exact HO.out.alloc _;exact Ac.new_at _ (Sk ((k:Int),(m:Int))) _ _ rfl;exact zDg _;unfold maxLen;omega;omega;(simp;omega);intro v5 w5 ho5 hg5 hq5 hm5;clear hq5 hm5);have hb5:Below w1.heap.size w1 w5:=(HB.out.alloc hsz _).grown hg5 (by simp;omega) (fun j e=>(HO.out.lt j e).1);have ho6:w5.ownsRow w1.heap.size 176 2 v5 (4*k+(m+1)) (E9 (B9.take (4*k+(m+1)))):=by rw[ht2.out,Ts];exact ho5
     clear ho5 hg5;go_roundw
     case rel=>exact⟨m+1,by omega,by go_num,ho6,hb5⟩
     case measure=>simp[intOf];omega
    ·obtain rfl:m=4:=by omega
     have ho6:wr.ownsRow w1.heap.size 176 2 u6 (4*(k+1)) (E9 (B9.take (4*(k+1)))):=ho;have hb6:=hb;clear ho hb;go_wp2;go_roundw
     case rel=>exact⟨k+1,by omega,by go_num,ho6,hb6⟩
     case measure=>simp[intOf];omega
  ·obtain rfl:k=4:=by omega
   have ho6:wr.ownsRow w1.heap.size 176 2 u6 16 (E9 B9):=ho;obtain⟨pa,pc,rfl⟩:=Aj ho6;have hbr:Below w.heap.size w wr:=Ar hb1 hb
   have CM:Hid (Calls prog 116 #[.slice pa 16 pc] wr fun e w'=>∃b,e=.returned (.tuple #[.pointer (some ⟨b,0,none⟩),.nilIface])∧wr.heap.size≤b∧Gu w' b B9 0 (-1)∧Below wr.heap.size wr w'):=by
    refine(zIn ea pa 16 pc B9 wr ((HG.out.below hbr).sub (by simp)) rfl (Cd ho6) (by omega)).mono ?_;rintro e w' (⟨_,b,h1,h2,h3,h4⟩|⟨i,hi,hp,_⟩)
    ·exact⟨b,h1,h2,h3,h4⟩
    ·have:=Ps _ (List.getElem_mem hi);rw[hp] at this;simp at this
   have HBR:=zh hbr;clear ho ho6 hb hbr;go_wp2_with fail;refine CM.out.mono ?_;rintro e w5⟨bb,rfl,hbb,⟨mm,hB⟩,hb5⟩;have hb5':Below w.heap.size w w5:=Ar HBR.out hb5;have CC:=zh (To a n cap l w5 HN.out (HR.out.below hb5') (by have:=HPL.out;have:=HN.out;omega));have hbb0:w.heap.size≤bb:=Nat.le_trans HBR.out.size hbb;have HBB:=zh hB;have HB5:=zh hb5';clear hB hb5 hb5' CM;go_wp2_with fail;refine CC.out.mono ?_;rintro e w6⟨la,lc,rfl,hol,hb6⟩;have hmk:=@run_makeMap prog;have hb6':Below w.heap.size w w6:=Ar HB5.out hb6;have hBB6:=HBB.out.kept (Bw hb6 none) (by simp) (by simp);have hmmlt:mm<w6.heap.size:=hBB6.2.2.lt;have HBB6:=zh hBB6;have HOL:=zh hol;have HB6:=zh hb6';clear hb6 hb6' hBB6 hol CC;go_wp2;obtain⟨W7,hW7⟩:∃W7,W7=(w6.alloc (.map #[] 0)).alloc (.cells #[.slice la n lc,.int .i64 0,.pointer (some ⟨bb,0,none⟩),.map (some w6.heap.size)] 141):=⟨_,rfl⟩
   have hb67:Below w6.heap.size w6 W7:=by rw[hW7];exact(zb.alloc zl _).alloc (by simp) _
   have hblk:W7.heap[w6.heap.size+1]?=some (.cells #[.slice la n lc,.int .i64 0,.pointer (some ⟨bb,0,none⟩),.map (some w6.heap.size)] 141 (0,0)):=by
    rw[hW7];have h1:=heap_alloc_new (w6.alloc (.map #[] 0)) (.cells #[.slice la n lc,.int .i64 0,.pointer (some ⟨bb,0,none⟩),.map (some w6.heap.size)] 141);simpa using h1
   have hN7:Be W7 w6.heap.size (Tv (l.take 0) all) 0:=by
    rw[hW7,List.take_zero,zGi];exact(Be.made w6).below (zb.alloc zl _)
   have hz7:W7.heap.size=w6.heap.size+2:=by rw[hW7];simp
   rw[←hW7];clear hW7 hmk;have HBLK:=zh hblk;have HZ7:=zh hz7;have HB67:=zh hb67;have HM7:=zh hN7.map;clear hblk hz7 hb67;go_loopw [51] (fun i wr=>∃k q:Nat,k≤n∧i=.int .i64 k∧Be wr w6.heap.size (Tv (l.take k) all) q∧q≤k∧Fr (fun j=>j=w6.heap.size) W7 wr) (fun i _=>n-(intOf i).toNat)
   case atStart=>exact⟨0,0,Nat.zero_le _,rfl,hN7,Nat.le_refl _,Fr.refl _ _⟩
   case round=>
    clear hN7;obtain⟨k,q,hk,rfl,hN,hq,hF⟩:=hrel;have hn32:n≤32:=by have:=HPL.out;have:=HN.out;omega
    by_cases hlt:k<n
    ·have hkl:k<l.length:=by have:=HN.out;omega
     have hrw:=((HR.out.below HB6.out).below HB67.out).frN hF (fun j e=>by subst e;exact HM7.out);obtain⟨b,off,rfl,hbl,c0⟩:=hrw.int k hkl;have hnn:=HPL.out.2.2.2 _ (List.getElem_mem hkl);have hwn:=zGp hnn;have HTK:=zh (List.take_succ_eq_append_getElem hkl)
     have k3:wr.cell? ⟨w6.heap.size+1,3,none⟩=some (.map (some w6.heap.size)):=by
      have h1:=cell_of_row W7 _ 3 _ _ _ HBLK.out;have h2:=hF.block (w6.heap.size+1) (by have:=HZ7.out;omega) (by omega);simp only[World.cell?,h2] at h1 ⊢;exact h1
     have hi0:(0:Int)≤(k:Int):=by omega
     have hi1:(k:Int)<(n:Int):=by omega
     generalize l[k]=x at *;have HNx:=zh hN;have HF:=zh hF;clear hN hF hrw hkl hnn;go_wp2_with (at_mapUpdate;refine Ek rfl _ _ _ rfl (mb:=w6.heap.size) (g:=Tv (l.take k) all) (q:=q) (i:=x) (x:=⟨2,0,all,0,0,[]⟩) (sl:=.slice none 0 0) rfl HNx.out (by omega) rfl rfl hwn (Cx.nil _) ?_;intro w9 hN9 hg9)
     have hN9':Hid (∃q',q'≤k+1∧Be w9 w6.heap.size (Tv (l.take (k+1)) all) q'):=by
      rw[zGj,←HTK.out] at hN9;refine⟨_,?_,hN9⟩
      split<;>omega
     have HF9:Hid (Fr (fun j=>j=w6.heap.size) W7 w9):=HF.out.trans (Fr.grown hg9 (fun k e=>by injection e with e;exact e.symm));clear hN9 hg9;obtain⟨q',hq',hNq⟩:=hN9';go_roundw
     case rel=>(first|exact⟨k+1,q',by omega,by go_num,hNq,hq',HF9.out⟩|((repeat apply Exists.intro);exact⟨⟨k+1,q',by omega,by go_num,hNq,hq',HF9.out⟩,rfl⟩))
     case measure=>simp[intOf];omega
    ·obtain rfl:k=n:=by omega
     have hfull:Tv (l.take k) all=(CP.new l).f:=by
      rw[List.take_of_length_le (by have:=HN.out;omega),←HALL.out];rfl
     rw[hfull] at hN;have hb7:Below w.heap.size w W7:=Ar HB6.out HB67.out;have hbr:Below w.heap.size w wr:=hF.base hb7 (fun j e=>by rw[e];exact HB6.out.size);have hz:=HZ7.out;have hln:=HN.out
     have hA:Ap wr ⟨w6.heap.size+1,bb,w6.heap.size,mm,la,lc⟩ (CP.new l):=by
      have hpl6:W7.ownsRow 0 3 1 (.slice la l.length lc) l.length (Aa l):=by rw[hln];exact Cb (C0 HOL.out (Nat.zero_le _)) HB67.out
      refine⟨?_,?_,?_,⟨q,by omega,hN⟩,by dsimp only;omega⟩
      ·have:=(hF.block (w6.heap.size+1) (by omega) (by omega)).trans HBLK.out
       rw[←hln] at this;exact this
      ·exact Dh hpl6 hF (fun j cur hj e=>by
        obtain⟨es2,clock2,hm2⟩:=HM7.out
        rw[e,hm2] at hj;cases hj)
      ·exact(HBB6.out.kept (Bw HB67.out none) (by simp) (by simp)).fr hF (fun e=>by have:=(Array.getElem?_eq_some_iff.1 HBB6.out.1).1;omega) (by omega)
     have HA:=zh hA;have HBR2:=zh hbr;clear hN hF hfull hb7 hA hbr;go_wp2;go_ret2;exact⟨_,rfl,HA.out,⟨by have:=HB6.out.size;dsimp only;omega,hbb0,HB6.out.size⟩,HBR2.out⟩
end Go.Proofs.YtppfkokfnoeopaaGreatDoor
namespace Go.Proofs.YtppfkokfnoeopaaGreatDoor
open Go.RowKit Go.Proofs.Tryz
structure Wz where
 kind:List UInt8
 n:Int
 m:Int
 la:Option Addr
 lc:Nat
 lost:List Int
 deriving Inhabited
def Wz.cells(a:Wz):List Value:=[.string ⟨a.kind.toArray⟩,.int .i64 a.n,.int .i64 a.m,.slice a.la a.lost.length a.lc]
theorem Wz.len(a:Wz):a.cells.length=4:=rfl
def Wz.Ok(w:World)(a:Wz):Prop:=(Lit.int .i64 a.n).wf=true∧(Lit.int .i64 a.m).wf=true∧Ac w a.la (Aa a.lost)∧a.lost.length≤maxLen∧a.kind.length≤maxLen
theorem Wz.Ok.below{w w':World}{a:Wz}(h:a.Ok w)(hb:Below w.heap.size w w'):a.Ok w':=⟨h.1,h.2.1,h.2.2.1.below hb,h.2.2.2⟩
theorem Tl{α:Type}(l:List α)(p:α→Bool)(k:Nat)(hk:k<l.length):(l.take (k+1)).any p=((l.take k).any p||p l[k]):=by
 rw[List.take_succ_eq_append_getElem hk,List.any_append];simp
end Go.Proofs.YtppfkokfnoeopaaGreatDoor
namespace Go.Proofs.YtppfkokfnoeopaaGreatDoor
open Go.RowKit Go.Maps Go.Proofs.Tryz
theorem zCe(ea:Nat→Addr)(L:CL)(c:CP)(la:Option Addr)(ln lc:Nat)(lost:List Int)(w:World)(hE:Mt ea L w)(h:Ap w L c)(hI:Ce c)(hll:lost.length=ln)(hlr:Ac w la (Aa lost))(hlc:ln≤1000) :
 Calls prog 137 #[.pointer (some ⟨L.cb,0,none⟩),.slice la ln lc] w fun e w'=>e=.returned (.tuple #[.string ⟨c.slotT.toArray⟩,Bm ea (c.slotF lost).2])∧Ap w' L (c.slotF lost).1∧Fr L.own w w':=by
 by_cases ht:c.time<200
 ·refine(zE9 ea L c la ln lc lost w hE h hI ht hll hlr hlc).mono ?_
  rintro e w'⟨rfl,h1,h2⟩;rw[CP.slotT,CP.slotF,if_pos ht,if_pos ht];exact⟨by rw[Al],h1,h2⟩
 ·refine(Zl ea L c la ln lc w ((hE _ (Fr.refl _ _)).1.sub (by simp)) h (by omega)).mono ?_
  rintro e w'⟨rfl,h1,h2⟩;rw[CP.slotT,CP.slotF,if_neg ht,if_neg ht];exact⟨rfl,h1,Fr.of h2⟩
theorem Mt.fr{ea:Nat→Addr}{L:CL}{w w':World}(h:Mt ea L w)(hf:Fr L.own w w'):Mt ea L w':=fun W hW=>h W (hf.trans hW)
end Go.Proofs.YtppfkokfnoeopaaGreatDoor
