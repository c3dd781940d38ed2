/- A part of a proof. -/
import Derived.Deep.CutBlock
import Derived.Deep.DeepCutAuto
import Derived.Test.YtppfkokfnoeopaaGreatDoorDClusIter
import Derived.Test.YtppfkokfnoeopaaGreatDoorDSent
namespace Go.Proofs.YtppfkokfnoeopaaGreatDoor
open Go.RowKit Go.Maps
def EnvC(ea:Nat→Addr)(L:CL)(w:World):Prop:=∀W,Fr L.own w W→Glob W ea [1,2,3,4,5,6,7,8,9,10,11]∧TxtEnv W
theorem RowAt.fr{S:Nat→Prop}{w w':World}{a:Option Addr}{cs:List Value}(h:RowAt w a cs)(hf:Fr S w w')(hS:∀k,S k→∃es clock,w.heap[k]?=some (.map es clock)):RowAt w' a cs:=by
 rcases h with h|⟨b,off,rfl,hlt,hc⟩
 ·exact Or.inl h
 ·by_cases hcs:cs=[]
  ·exact Or.inl hcs
  ·obtain⟨v,r,rfl⟩:=List.exists_cons_of_ne_nil hcs
   have hn:¬S b:=fun hs=>by
    obtain⟨es,clock,hm⟩:=hS b hs;have:=hc 0 v rfl;simp[World.cell?,hm] at this
   refine Or.inr ⟨b,off,rfl,Nat.lt_of_lt_of_le hlt hf.size,fun i u hu=>?_⟩;have h1:=hc i u hu;simp only[World.cell?,hf.block b hlt hn] at h1 ⊢;exact h1
theorem node_wf{n:Int}(h:nodeB n=true):(Lit.int .i64 n).wf=true:=by
 simp only[nodeB,decide_eq_true_eq] at h;have h1:IntKind.i64.min=-9223372036854775808:=by decide +kernel
 have h2:IntKind.i64.max=9223372036854775807:=by decide +kernel
 simp only[Lit.wf,Bool.and_eq_true,decide_eq_true_eq,h1,h2];omega
set_option maxRecDepth 100000 in
theorem cSlot_full(ea:Nat→Addr)(L:CL)(c:CP)(la:Option Addr)(ln lc:Nat)(w:World)(hg:Glob w ea [7])(h:ClusAt w L c)(ht:200≤c.time) :
 Calls Tryz.prog 137 #[.pointer (some ⟨L.cb,0,none⟩),.slice la ln lc] w fun e w'=>e=.returned (.tuple #[.string ⟨#[]⟩,errV ea 7])∧ClusAt w' L c∧Below w.heap.size w w':=by
 obtain⟨c0,c1,c2,c3⟩:=h.cells;have g7:=hg.cell 7 (by simp);have gl7:=hg.lt 7 (by simp);simp only[gOf] at g7 gl7;have hd:decide ((200:Int)≤(c.time:Int))=true:=by simp;omega
 have H:=Lib.hid h;clear h hg;go_enter Tryz.func137,Tryz.ntmps137;go_wp2;go_quiet (fail);go_wp2;go_ret2;exact⟨rfl,H.out.drewN _,below_drewN (Below.refl _ _) _⟩
theorem own0{w w1:World}(hb:Below w.drew.heap.size w.drew w1):Below w.heap.size w w1:=(below_drewN (Below.refl _ _) 1).trans (hb.mono (by simp))
theorem own3d{w w1:World}{x y z:Value}{t:TypeId}(hb:Below (w.alloc (.cells #[x,y,z] t)).drew.heap.size (w.alloc (.cells #[x,y,z] t)).drew w1) :
 w1.cell? ⟨w.heap.size,0,none⟩=some x∧w1.cell? ⟨w.heap.size,1,none⟩=some y∧w1.cell? ⟨w.heap.size,2,none⟩=some z∧w1.frozen? ⟨w.heap.size,0,none⟩=false∧w1.frozen? ⟨w.heap.size,1,none⟩=false∧w1.frozen? ⟨w.heap.size,2,none⟩=false∧w.heap.size<w1.heap.size∧Below w.heap.size w w1:=by
 have hA:Below (w.alloc (.cells #[x,y,z] t)).heap.size (w.alloc (.cells #[x,y,z] t)) w1:=(below_drewN (Below.refl _ _) 1).trans (hb.mono (by simp))
 exact⟨(hA.cell (p:=⟨w.heap.size,0,none⟩) (by simp)).trans (by simp),
  (hA.cell (p:=⟨w.heap.size,1,none⟩) (by simp)).trans (by simp),
  (hA.cell (p:=⟨w.heap.size,2,none⟩) (by simp)).trans (by simp),
  (hA.frozen (p:=⟨w.heap.size,0,none⟩) (by simp)).trans (by simp),
  (hA.frozen (p:=⟨w.heap.size,1,none⟩) (by simp)).trans (by simp),
  (hA.frozen (p:=⟨w.heap.size,2,none⟩) (by simp)).trans (by simp),by have:=hb.size;simp at this;omega,((Below.refl _ _).alloc (Nat.le_refl _) _).trans (hA.mono (by simp))⟩
theorem own4d{w w1:World}{p q r s:Value}{t:TypeId}(hb:Below (w.alloc (.cells #[p,q,r,s] t)).drew.heap.size (w.alloc (.cells #[p,q,r,s] t)).drew w1) :
 w1.cell? ⟨w.heap.size,0,none⟩=some p∧w1.cell? ⟨w.heap.size,1,none⟩=some q∧w1.cell? ⟨w.heap.size,2,none⟩=some r∧w1.cell? ⟨w.heap.size,3,none⟩=some s∧w1.frozen? ⟨w.heap.size,0,none⟩=false∧w1.frozen? ⟨w.heap.size,1,none⟩=false∧w1.frozen? ⟨w.heap.size,2,none⟩=false∧w1.frozen? ⟨w.heap.size,3,none⟩=false∧w.heap.size<w1.heap.size∧Below w.heap.size w w1:=by
 have hA:Below (w.alloc (.cells #[p,q,r,s] t)).heap.size (w.alloc (.cells #[p,q,r,s] t)) w1:=(below_drewN (Below.refl _ _) 1).trans (hb.mono (by simp))
 exact⟨(hA.cell (p:=⟨w.heap.size,0,none⟩) (by simp)).trans (by simp),
  (hA.cell (p:=⟨w.heap.size,1,none⟩) (by simp)).trans (by simp),
  (hA.cell (p:=⟨w.heap.size,2,none⟩) (by simp)).trans (by simp),
  (hA.cell (p:=⟨w.heap.size,3,none⟩) (by simp)).trans (by simp),
  (hA.frozen (p:=⟨w.heap.size,0,none⟩) (by simp)).trans (by simp),
  (hA.frozen (p:=⟨w.heap.size,1,none⟩) (by simp)).trans (by simp),
  (hA.frozen (p:=⟨w.heap.size,2,none⟩) (by simp)).trans (by simp),
  (hA.frozen (p:=⟨w.heap.size,3,none⟩) (by simp)).trans (by simp),by have:=hb.size;simp at this;omega,((Below.refl _ _).alloc (Nat.le_refl _) _).trans (hA.mono (by simp))⟩
theorem own34{w w1:World}{x y z p q r s:Value}{t t2:TypeId}(hb:Below ((w.alloc (.cells #[x,y,z] t)).alloc (.cells #[p,q,r,s] t2)).drew.heap.size ((w.alloc (.cells #[x,y,z] t)).alloc (.cells #[p,q,r,s] t2)).drew w1) :
 w1.cell? ⟨w.heap.size,0,none⟩=some x∧w1.cell? ⟨w.heap.size,1,none⟩=some y∧w1.cell? ⟨w.heap.size,2,none⟩=some z∧w1.cell? ⟨w.heap.size+1,0,none⟩=some p∧w1.cell? ⟨w.heap.size+1,1,none⟩=some q∧w1.cell? ⟨w.heap.size+1,2,none⟩=some r∧w1.cell? ⟨w.heap.size+1,3,none⟩=some s∧w1.frozen? ⟨w.heap.size,0,none⟩=false∧w1.frozen? ⟨w.heap.size,1,none⟩=false∧w1.frozen? ⟨w.heap.size,2,none⟩=false∧w1.frozen? ⟨w.heap.size+1,0,none⟩=false∧w1.frozen? ⟨w.heap.size+1,1,none⟩=false∧w1.frozen? ⟨w.heap.size+1,2,none⟩=false∧w1.frozen? ⟨w.heap.size+1,3,none⟩=false∧w.heap.size+1<w1.heap.size∧Below w.heap.size w w1:=by
 have hA:Below (w.alloc (.cells #[x,y,z] t)).heap.size (w.alloc (.cells #[x,y,z] t)) w1:=(below_drewN ((Below.refl _ _).alloc (Nat.le_refl _) _) 1).trans (hb.mono (by simp))
 exact⟨(hA.cell (p:=⟨w.heap.size,0,none⟩) (by simp)).trans (by simp),
  (hA.cell (p:=⟨w.heap.size,1,none⟩) (by simp)).trans (by simp),
  (hA.cell (p:=⟨w.heap.size,2,none⟩) (by simp)).trans (by simp),
  (hb.cell (p:=⟨w.heap.size+1,0,none⟩) (by simp)).trans (by simp),
  (hb.cell (p:=⟨w.heap.size+1,1,none⟩) (by simp)).trans (by simp),
  (hb.cell (p:=⟨w.heap.size+1,2,none⟩) (by simp)).trans (by simp),
  (hb.cell (p:=⟨w.heap.size+1,3,none⟩) (by simp)).trans (by simp),
  (hA.frozen (p:=⟨w.heap.size,0,none⟩) (by simp)).trans (by simp),
  (hA.frozen (p:=⟨w.heap.size,1,none⟩) (by simp)).trans (by simp),
  (hA.frozen (p:=⟨w.heap.size,2,none⟩) (by simp)).trans (by simp),
  (hb.frozen (p:=⟨w.heap.size+1,0,none⟩) (by simp)).trans (by simp),
  (hb.frozen (p:=⟨w.heap.size+1,1,none⟩) (by simp)).trans (by simp),
  (hb.frozen (p:=⟨w.heap.size+1,2,none⟩) (by simp)).trans (by simp),
  (hb.frozen (p:=⟨w.heap.size+1,3,none⟩) (by simp)).trans (by simp),by have:=hb.size;simp at this;omega,((Below.refl _ _).alloc (Nat.le_refl _) _).trans (hA.mono (by simp))⟩
theorem own43{w w1:World}{p q r s x y z:Value}{t t2:TypeId}(hb:Below ((w.alloc (.cells #[p,q,r,s] t)).alloc (.cells #[x,y,z] t2)).drew.heap.size ((w.alloc (.cells #[p,q,r,s] t)).alloc (.cells #[x,y,z] t2)).drew w1) :
 w1.cell? ⟨w.heap.size,0,none⟩=some p∧w1.cell? ⟨w.heap.size,1,none⟩=some q∧w1.cell? ⟨w.heap.size,2,none⟩=some r∧w1.cell? ⟨w.heap.size,3,none⟩=some s∧w1.cell? ⟨w.heap.size+1,0,none⟩=some x∧w1.cell? ⟨w.heap.size+1,1,none⟩=some y∧w1.cell? ⟨w.heap.size+1,2,none⟩=some z∧w1.frozen? ⟨w.heap.size,0,none⟩=false∧w1.frozen? ⟨w.heap.size,1,none⟩=false∧w1.frozen? ⟨w.heap.size,2,none⟩=false∧w1.frozen? ⟨w.heap.size,3,none⟩=false∧w1.frozen? ⟨w.heap.size+1,0,none⟩=false∧w1.frozen? ⟨w.heap.size+1,1,none⟩=false∧w1.frozen? ⟨w.heap.size+1,2,none⟩=false∧w.heap.size+1<w1.heap.size∧Below w.heap.size w w1:=by
 have hA:Below (w.alloc (.cells #[p,q,r,s] t)).heap.size (w.alloc (.cells #[p,q,r,s] t)) w1:=(below_drewN ((Below.refl _ _).alloc (Nat.le_refl _) _) 1).trans (hb.mono (by simp))
 exact⟨(hA.cell (p:=⟨w.heap.size,0,none⟩) (by simp)).trans (by simp),
  (hA.cell (p:=⟨w.heap.size,1,none⟩) (by simp)).trans (by simp),
  (hA.cell (p:=⟨w.heap.size,2,none⟩) (by simp)).trans (by simp),
  (hA.cell (p:=⟨w.heap.size,3,none⟩) (by simp)).trans (by simp),
  (hb.cell (p:=⟨w.heap.size+1,0,none⟩) (by simp)).trans (by simp),
  (hb.cell (p:=⟨w.heap.size+1,1,none⟩) (by simp)).trans (by simp),
  (hb.cell (p:=⟨w.heap.size+1,2,none⟩) (by simp)).trans (by simp),
  (hA.frozen (p:=⟨w.heap.size,0,none⟩) (by simp)).trans (by simp),
  (hA.frozen (p:=⟨w.heap.size,1,none⟩) (by simp)).trans (by simp),
  (hA.frozen (p:=⟨w.heap.size,2,none⟩) (by simp)).trans (by simp),
  (hA.frozen (p:=⟨w.heap.size,3,none⟩) (by simp)).trans (by simp),
  (hb.frozen (p:=⟨w.heap.size+1,0,none⟩) (by simp)).trans (by simp),
  (hb.frozen (p:=⟨w.heap.size+1,1,none⟩) (by simp)).trans (by simp),
  (hb.frozen (p:=⟨w.heap.size+1,2,none⟩) (by simp)).trans (by simp),by have:=hb.size;simp at this;omega,((Below.refl _ _).alloc (Nat.le_refl _) _).trans (hA.mono (by simp))⟩
structure Tri(W:World)(k:Nat)(a b c:Value):Prop where
 c0:W.cell? ⟨k,0,none⟩=some a
 c1:W.cell? ⟨k,1,none⟩=some b
 c2:W.cell? ⟨k,2,none⟩=some c
 lt:k<W.heap.size
structure Quad(W:World)(k:Nat)(a b c d:Value):Prop where
 c0:W.cell? ⟨k,0,none⟩=some a
 c1:W.cell? ⟨k,1,none⟩=some b
 c2:W.cell? ⟨k,2,none⟩=some c
 c3:W.cell? ⟨k,3,none⟩=some d
 lt:k<W.heap.size
theorem Tri.new(W:World)(t:TypeId)(a b c:Value){k:Nat}(hk:k=W.heap.size):Tri (W.alloc (.cells #[a,b,c] t)) k a b c:=by
 subst hk;exact⟨by simp,by simp,by simp,by simp⟩
theorem Tri.alloc{W:World}{k:Nat}{a b c:Value}(h:Tri W k a b c)(o:Obj):Tri (W.alloc o) k a b c:=
 ⟨(World.cell?_alloc_lt _ _ ⟨k,0,none⟩ h.lt).trans h.c0,(World.cell?_alloc_lt _ _ ⟨k,1,none⟩ h.lt).trans h.c1,(World.cell?_alloc_lt _ _ ⟨k,2,none⟩ h.lt).trans h.c2,by have:=h.lt;simp;omega⟩
theorem Tri.set{W:World}{k:Nat}{x y z a b c:Value}(h:Tri W k x y z):Tri (((W.setCell ⟨k,0,none⟩ a).setCell ⟨k,1,none⟩ b).setCell ⟨k,2,none⟩ c) k a b c:=by
 obtain⟨h0,h1,h2,h3⟩:=h;exact⟨by go_simp,by go_simp,by go_simp,by simpa using h3⟩
theorem Tri.setOther{W:World}{k:Nat}{a b c:Value}(h:Tri W k a b c){j:Nat}(hne:j≠k)(o:Nat)(v:Value):Tri (W.setCell ⟨j,o,none⟩ v) k a b c:=
 ⟨(World.cell?_setCell_far _ _ _ _ hne).trans h.c0,(World.cell?_setCell_far _ _ _ _ hne).trans h.c1,(World.cell?_setCell_far _ _ _ _ hne).trans h.c2,by simpa using h.lt⟩
theorem Quad.new(W:World)(t:TypeId)(a b c d:Value){k:Nat}(hk:k=W.heap.size):Quad (W.alloc (.cells #[a,b,c,d] t)) k a b c d:=by
 subst hk;exact⟨by simp,by simp,by simp,by simp,by simp⟩
theorem Quad.alloc{W:World}{k:Nat}{a b c d:Value}(h:Quad W k a b c d)(o:Obj):Quad (W.alloc o) k a b c d:=
 ⟨(World.cell?_alloc_lt _ _ ⟨k,0,none⟩ h.lt).trans h.c0,(World.cell?_alloc_lt _ _ ⟨k,1,none⟩ h.lt).trans h.c1,(World.cell?_alloc_lt _ _ ⟨k,2,none⟩ h.lt).trans h.c2,(World.cell?_alloc_lt _ _ ⟨k,3,none⟩ h.lt).trans h.c3,by have:=h.lt;simp;omega⟩
theorem Quad.set{W:World}{k:Nat}{x y z u a b c d:Value}(h:Quad W k x y z u):Quad ((((W.setCell ⟨k,0,none⟩ a).setCell ⟨k,1,none⟩ b).setCell ⟨k,2,none⟩ c).setCell ⟨k,3,none⟩ d) k a b c d:=by
 obtain⟨h0,h1,h2,h3,h4⟩:=h;exact⟨by go_simp,by go_simp,by go_simp,by go_simp,by simpa using h4⟩
theorem Quad.setOther{W:World}{k:Nat}{a b c d:Value}(h:Quad W k a b c d){j:Nat}(hne:j≠k)(o:Nat)(v:Value):Quad (W.setCell ⟨j,o,none⟩ v) k a b c d:=
 ⟨(World.cell?_setCell_far _ _ _ _ hne).trans h.c0,(World.cell?_setCell_far _ _ _ _ hne).trans h.c1,(World.cell?_setCell_far _ _ _ _ hne).trans h.c2,(World.cell?_setCell_far _ _ _ _ hne).trans h.c3,by simpa using h.lt⟩
theorem Tri.below{W W':World}{k:Nat}{a b c:Value}(h:Tri W k a b c)(hb:Below W.heap.size W W'):Tri W' k a b c:=
 ⟨(hb.cell (p:=⟨k,0,none⟩) h.lt).trans h.c0,(hb.cell (p:=⟨k,1,none⟩) h.lt).trans h.c1,(hb.cell (p:=⟨k,2,none⟩) h.lt).trans h.c2,Nat.lt_of_lt_of_le h.lt hb.size⟩
theorem Quad.below{W W':World}{k:Nat}{a b c d:Value}(h:Quad W k a b c d)(hb:Below W.heap.size W W'):Quad W' k a b c d:=
 ⟨(hb.cell (p:=⟨k,0,none⟩) h.lt).trans h.c0,(hb.cell (p:=⟨k,1,none⟩) h.lt).trans h.c1,(hb.cell (p:=⟨k,2,none⟩) h.lt).trans h.c2,(hb.cell (p:=⟨k,3,none⟩) h.lt).trans h.c3,Nat.lt_of_lt_of_le h.lt hb.size⟩
def halfI(left:Int→Bool)(f:Int→Option NP)(k:Int→NP→NP):Int→Option NP:=fun i=>if left i then f i else(f i).map (k i)
theorem halfI_start(f:Int→Option NP)(k:Int→NP→NP):halfI (fun i=>(f i).isSome) f k=f:=funext fun i=>by
 unfold halfI
 by_cases h:(f i).isSome=true
 ·rw[if_pos h]
 ·rw[if_neg h]
  have e:f i=none:=by cases hf:f i<;>simp_all
  rw[e];rfl
theorem halfI_end{left:Int→Bool}(h:∀i,left i=false)(f:Int→Option NP)(k:Int→NP→NP):halfI left f k=fun i=>(f i).map (k i):=funext fun i=>by
 unfold halfI;rw[h i];rfl
theorem halfI_put{left:Int→Bool}{f:Int→Option NP}{k:Int→NP→NP}{i:Int}{x y:NP}(hf:f i=some x)(hy:k i x=y):putN (halfI left f k) i y=halfI (fun j=>left j&&!(j==i)) f k:=funext fun j=>by
 unfold putN halfI
 by_cases e:j=i
 ·subst e;simp[hf,hy]
 ·have e2:(j==i)=false:=by simpa using e
  simp[e,e2]
theorem halfI_skip{left:Int→Bool}{f:Int→Option NP}{k:Int→NP→NP}{i:Int}{x:NP}(hf:f i=some x)(hy:k i x=x):halfI left f k=halfI (fun j=>left j&&!(j==i)) f k:=funext fun j=>by
 unfold halfI
 by_cases e:j=i
 ·subst e;rw[hf,Option.map_some,hy];simp
 ·have e2:(j==i)=false:=by simpa using e
  simp[e2]
theorem halfI_at{left:Int→Bool}{f:Int→Option NP}{k:Int→NP→NP}{i:Int}(hl:left i=true):halfI left f k i=f i:=by unfold halfI;rw[hl];rfl
theorem step_put_range{w:World}{ops:Array Oper}{o:Oper}{a:Go.Act}{K:Go.Act→World→Prop}{Q:Exit→Go.Act→World→Prop}{E:Prop}(hg:o.guard=none)(m k v:Operand)(hop:o.op=Op.mapUpdate 138 m k v){mb r q cnt:Nat}{g:Int→Option NP}{left:Int→Bool}{i:Int}{x:NP}{sl:Value}
 (hm:a.eval m=.map (some mb)) (h:RangeP w mb r g q left cnt) (hk:a.eval k=.int .i64 i) (hv:a.eval v=x.v sl) (hi:(Lit.int .i64 i).wf=true) (hf:(g i).isSome=true) (hr:HRow w sl x.h)
 (hK:∀w',RangeP w' mb r (putN g i x) q left cnt→w.grownBy w' (some mb)→w'.heap.size=w.heap.size→K (a.put o.dst undef) w'):if Region.wanted o (yielded ops a.tmps)=true then Oper.wp Tryz.prog o a w K Q else E:=by
 have hw:Region.wanted o (yielded ops a.tmps)=true:=by simp[Region.wanted,hg]
 rw[if_pos hw];obtain⟨w',hrun,r1,r2,r3⟩:=h.put hi hf hr;unfold Oper.wp;simp[execOp,hop,hm,hk,hv,hrun,Result.andThen];exact hK w' r1 r2 r3
theorem keepS{W w5:World}{a b c:Nat}{v0 v1 v2 v3 v4 v5:Value}(h:W.drew.cell? ⟨a,3,none⟩=some v0∧W.drew.cell? ⟨b,1,none⟩=some v1∧W.drew.cell? ⟨c,2,none⟩=some v2∧W.drew.cell? ⟨c,3,none⟩=some v3∧W.drew.cell? ⟨c,4,none⟩=some v4∧W.drew.cell? ⟨c,5,none⟩=some v5)(hb:Below W.drew.heap.size W.drew w5)(hl:a<W.heap.size∧b<W.heap.size∧c<W.heap.size) :
 w5.cell? ⟨a,3,none⟩=some v0∧w5.cell? ⟨b,1,none⟩=some v1∧w5.cell? ⟨c,2,none⟩=some v2∧w5.cell? ⟨c,3,none⟩=some v3∧w5.cell? ⟨c,4,none⟩=some v4∧w5.cell? ⟨c,5,none⟩=some v5:=by
 obtain⟨h0,h1,h2,h3,h4,h5⟩:=h;exact⟨(hb.cell (p:=⟨a,3,none⟩) hl.1).trans h0,(hb.cell (p:=⟨b,1,none⟩) hl.2.1).trans h1,(hb.cell (p:=⟨c,2,none⟩) hl.2.2).trans h2,(hb.cell (p:=⟨c,3,none⟩) hl.2.2).trans h3,(hb.cell (p:=⟨c,4,none⟩) hl.2.2).trans h4,(hb.cell (p:=⟨c,5,none⟩) hl.2.2).trans h5⟩
theorem keepG{w5 wz:World}{a b c m:Nat}{v0 v1 v2 v3 v4 v5:Value}(h:w5.cell? ⟨a,3,none⟩=some v0∧w5.cell? ⟨b,1,none⟩=some v1∧w5.cell? ⟨c,2,none⟩=some v2∧w5.cell? ⟨c,3,none⟩=some v3∧w5.cell? ⟨c,4,none⟩=some v4∧w5.cell? ⟨c,5,none⟩=some v5)(hg:w5.grownBy wz (some m))(hm:m≠a∧m≠b∧m≠c) :
 wz.cell? ⟨a,3,none⟩=some v0∧wz.cell? ⟨b,1,none⟩=some v1∧wz.cell? ⟨c,2,none⟩=some v2∧wz.cell? ⟨c,3,none⟩=some v3∧wz.cell? ⟨c,4,none⟩=some v4∧wz.cell? ⟨c,5,none⟩=some v5:=by
 obtain⟨h0,h1,h2,h3,h4,h5⟩:=h;have na:some a≠some m:=fun e=>hm.1 (by injection e with e;exact e.symm)
 have nb:some b≠some m:=fun e=>hm.2.1 (by injection e with e;exact e.symm)
 have nc:some c≠some m:=fun e=>hm.2.2 (by injection e with e;exact e.symm)
 exact⟨grown_cell hg h0 na,grown_cell hg h1 nb,grown_cell hg h2 nc,grown_cell hg h3 nc,grown_cell hg h4 nc,grown_cell hg h5 nc⟩
theorem Six.set4{W:World}{k:Nat}{t:TypeId}{a b c d e f:Value}(h:Six W k t a b c d e f)(x y z u:Value):Six ((((W.setCell ⟨k,2,none⟩ x).setCell ⟨k,3,none⟩ y).setCell ⟨k,4,none⟩ z).setCell ⟨k,5,none⟩ u) k t a b x y z u:=by
 obtain⟨⟨cur,ho⟩,h0,h1,h2,h3,h4,h5,hf,hl⟩:=h;refine⟨⟨_,heap_setCell_same _ k 5 _ _ _ (heap_setCell_same _ k 4 _ _ _ (heap_setCell_same _ k 3 _ _ _ (heap_setCell_same W k 2 _ _ _ ho)))⟩,by go_simp,by go_simp,by go_simp,by go_simp,by go_simp,by go_simp,fun o=>by go_simp,by simpa using hl⟩
theorem fr_set4{w W:World}(k:Nat)(hb:Below w.heap.size w W)(x y z u:Value):Fr (fun j=>j=k) w ((((W.setCell ⟨k,2,none⟩ x).setCell ⟨k,3,none⟩ y).setCell ⟨k,4,none⟩ z).setCell ⟨k,5,none⟩ u):=
 ((((Fr.of (S:=fun j=>j=k) hb).setCell (p:=⟨k,2,none⟩) (Or.inl rfl) x).setCell (p:=⟨k,3,none⟩) (Or.inl rfl) y).setCell (p:=⟨k,4,none⟩) (Or.inl rfl) z).setCell (p:=⟨k,5,none⟩) (Or.inl rfl) u
theorem HRow.set4{W:World}{k:Nat}{a b c d e f sl:Value}{hh:List Ent}(h:HRow W sl hh)(h6:Six W k 143 a b c d e f)(x y z u:Value):HRow ((((W.setCell ⟨k,2,none⟩ x).setCell ⟨k,3,none⟩ y).setCell ⟨k,4,none⟩ z).setCell ⟨k,5,none⟩ u) sl hh:=
 h.fr (fr_set4 k (Below.refl W.heap.size W) x y z u) (fun j cur hj e2=>by
  obtain⟨cur2,ho⟩:=h6.obj;subst e2
  rw[ho] at hj;injection hj with hj;injection hj with _ e3;revert e3;decide)
set_option maxRecDepth 1000000 in
set_option maxHeartbeats 32000000 in
theorem cSlot_ok(ea:Nat→Addr)(L:CL)(c:CP)(la:Option Addr)(ln lc:Nat)(lost:List Int)(w:World)(hE:EnvC ea L w)(h:ClusAt w L c)(hI:InvP c)(ht:c.time<200)(hll:lost.length=ln)(hlr:RowAt w la (encInts lost))(hlc:ln≤1000) :
 Calls Tryz.prog 137 #[.pointer (some ⟨L.cb,0,none⟩),.slice la ln lc] w fun e w'=>e=.returned (.tuple #[.string ⟨c.sent.toArray⟩,.nilIface])∧ClusAt w' L (c.slot (stayB c.plan.length) lost)∧Fr L.own w w':=by
 obtain⟨c0,c1,c2,c3⟩:=h.cells;obtain⟨l1,l2,l3,l4⟩:=h.lt;have hpl:=planF_ok hI.plan;have hd:decide ((200:Int)≤(c.time:Int))=false:=by simp;omega
 have hR:(rightF c.plan (c.time:Int)).1=0:=by rw[rightF,if_pos hI.plan,if_pos (by omega)]
 have hwv:whoF c.plan (c.time:Int)=whoV c.plan c.time:=by rw[whoF,if_pos hR];rfl
 have hwm:=whoV_mem c.plan c.time hpl.2.1
 obtain⟨z,hz⟩:∃z,c.f (whoV c.plan c.time)=some z:=by
  have h1:=hI.dom (whoV c.plan c.time);rw[decide_eq_true hwm] at h1;exact Option.isSome_iff_exists.1 h1
 have hzN:=hI.node _ z hz;have hwi:(Lit.int .i64 (whoV c.plan c.time)).wf=true:=node_wf hzN.node;have hcd:ClusAt w.drew L c:=h.drewN 1;have C1:=Lib.hid (who_any ea L.pa c.plan.length L.pc c.plan (c.time:Int) w.drew ((hE _ ((Fr.refl _ _).drewN 1)).1.sub (by simp)) rfl hcd.row (by omega));rw[rightF_zero hR,hwv] at C1;obtain⟨ka,kb,kc,kd⟩:=hcd.cells;have k0:w.drew.cell? ⟨L.cb,0,none⟩=some (.slice L.pa c.plan.length L.pc):=ka;have k1:w.drew.cell? ⟨L.cb,1,none⟩=some (.int .i64 c.time):=kb;have hl1:=hcd.lt.1;have H:=Lib.hid h;have HI:=Lib.hid hI;have HE:=Lib.hid hE;have HZ:=Lib.hid hz;have HZN:=Lib.hid hzN;have HLR:=Lib.hid hlr;have HLL:=Lib.hid hll;clear h hI hE hz hzN hlr hll ka kb kc kd hcd hR hwv hwm;generalize hwho:whoV c.plan c.time=who at *;have HWHO:=Lib.hid hwho;clear hwho;go_enter Tryz.func137,Tryz.ntmps137;go_wp2
 go_region_held3 (fun w'=>w'.cell? ⟨L.cb,0,none⟩=some (.slice L.pa c.plan.length L.pc)∧w'.cell? ⟨L.cb,1,none⟩=some (.int .i64 c.time)) (go_keep)
  ((go_at_call 181;(with_reducible refine C1.out.mono ?_);rintro e w1⟨v,rfl,hE1,hb1⟩;obtain rfl:=hE1.nil;have d0:=(hb1.cell (p:=⟨L.cb,0,none⟩) hl1).trans k0;have d1:=(hb1.cell (p:=⟨L.cb,1,none⟩) hl1).trans k1))
 have hb1':Below w.heap.size w w1:=(below_drewN (Below.refl _ _) 1).trans hb1;have hM1:=H.out.below hb1';obtain⟨q,hq,hN1⟩:=hM1.nodes;obtain⟨sa,sc,hlk,hrow⟩:=hN1.at_some hwi HZ.out;have e3:=hM1.cells.2.2.2;clear d0 d1 k0 k1 hE1 hb1
 have hsnd:(z.st=2∧c.sent=sendT c.plan z.m z.d z.s who z.val∧sendF c.plan z.m z.d z.s who z.val=(0,-1))∨(z.st≠2∧c.sent=[]):=by
  by_cases hst:z.st=2
  ·have hN:=HZN.out
   rw[←HWHO.out] at hN;have h1:=(send_active hN HI.out.plan hst (by omega)).1;rw[HWHO.out] at h1;exact Or.inl ⟨hst,by rw[CP.sent,HWHO.out,HZ.out];simp only[hst,if_true],h1⟩
  ·exact Or.inr ⟨hst,by rw[CP.sent,HWHO.out,HZ.out];simp only[hst,if_false]⟩
 have HSND:=Lib.hid hsnd;clear hsnd;go_upto_if 52 with(fail);obtain⟨W2,hW2,S2,hb2,hz2,hc2⟩:=new6 w1 143 (.int .i64 z.st) (.int .i64 z.val) (.int .i64 z.m) (.int .i64 z.d) (.int .i64 z.s) (.slice sa z.h.length sc);rw[←hW2];have hbw2:Below w.heap.size w W2:=onto hb1' hb2;clear hW2 hz2 hc2;go_cut [8] (fun s8 wx=>s8=.string ⟨c.sent.toArray⟩∧Below w.heap.size w wx)
 case first=>
  as_aux_lemma=>
   rcases HSND.out with⟨hst,hs1,hs2⟩|⟨hst,hs1⟩
   ·have hd:(z.st==2)=true:=by simpa using hst
    have hM2:=H.out.below (below_drewN hbw2 1);obtain⟨ka,kb,kc,kd⟩:=hM2.cells;have k0:W2.drew.cell? ⟨L.cb,0,none⟩=some (.slice L.pa c.plan.length L.pc):=ka;have S3:=S2.below (below_drewN (Below.refl W2.heap.size W2) 1);obtain⟨_,_,na,nb,nc,nd,_,_,nl⟩:=S3;have n1:W2.drew.cell? ⟨w1.heap.size,1,none⟩=some (.int .i64 z.val):=na;have n2:W2.drew.cell? ⟨w1.heap.size,2,none⟩=some (.int .i64 z.m):=nb;have n3:W2.drew.cell? ⟨w1.heap.size,3,none⟩=some (.int .i64 z.d):=nc;have n4:W2.drew.cell? ⟨w1.heap.size,4,none⟩=some (.int .i64 z.s):=nd;have hl2:=hM2.lt.1;have C2:=Lib.hid (send_any ea L.pa c.plan.length L.pc c.plan z.m z.d z.s who z.val W2.drew ((HE.out _ (Fr.of (below_drewN hbw2 1))).1.sub (by simp)) (HE.out _ (Fr.of (below_drewN hbw2 1))).2 rfl hM2.row (by omega));rw[hs2] at C2;have HS1:=Lib.hid hs1;clear ka kb kc kd na nb nc nd hM2 hs1 hs2 hst;go_wp2
    go_region_held3 (fun w'=>w'.cell? ⟨L.cb,0,none⟩=some (.slice L.pa c.plan.length L.pc)∧w'.cell? ⟨w1.heap.size,1,none⟩=some (.int .i64 z.val)∧w'.cell? ⟨w1.heap.size,2,none⟩=some (.int .i64 z.m)∧w'.cell? ⟨w1.heap.size,3,none⟩=some (.int .i64 z.d)∧w'.cell? ⟨w1.heap.size,4,none⟩=some (.int .i64 z.s)) (go_keep)
     ((go_at_call 182;(with_reducible refine C2.out.mono ?_);rintro e w3⟨v,rfl,hE3,hb3⟩;obtain rfl:=hE3.nil;have d0:=(hb3.cell (p:=⟨L.cb,0,none⟩) hl2).trans k0;have d1:=(hb3.cell (p:=⟨w1.heap.size,1,none⟩) nl).trans n1;have d2:=(hb3.cell (p:=⟨w1.heap.size,2,none⟩) nl).trans n2;have d3:=(hb3.cell (p:=⟨w1.heap.size,3,none⟩) nl).trans n3;have d4:=(hb3.cell (p:=⟨w1.heap.size,4,none⟩) nl).trans n4))
    have hbf:Below w.heap.size w w3:=onto (below_drewN hbw2 1) hb3;go_wp2_with fail;go_meet
    case rel=>exact⟨by rw[HS1.out],hbf⟩
   ·have hd:(z.st==2)=false:=by simpa using hst
    have HS1:=Lib.hid hs1;clear hst hs1;go_wp2_with fail;go_meet
    case rel=>exact⟨by rw[HS1.out],hbw2⟩
 case rest=>
  obtain⟨rfl,hbc⟩:=hcut;clear hb1' hM1 hN1 hrow e3 hlk S2 hb2 hbw2 hq;have hMc:=H.out.below hbc;have C3:=Lib.hid (cNames_any L c wc hMc HI.out.dom (planF_ok HI.out.plan).2.2.2);clear hMc;go_wp2_with fail;refine C3.out.mono ?_;rintro e w4⟨na,nc,rfl,hns,hb4⟩;have hb4':Below w.heap.size w w4:=onto hbc hb4;have hM4:=H.out.below hb4';obtain⟨q4,hq4,hN4⟩:=hM4.nodes;have hrise:=Lib.hid (names_rising c.plan);have hmem:=Lib.hid (names_mem (planF_ok HI.out.plan).2.2.2);have hlen:=names_len c.plan;generalize namesOf c.plan=ns at *;have hN4':NodesP w4 L.mb (part (ns.take 0) c.f (NP.step c.plan who lost c.sent)) q4:=by rw[List.take_zero,part_nil];exact hN4
  have HM4:=Lib.hid hM4;have HNS:=Lib.hid hns;have HB4:=Lib.hid hb4';clear hM4 hN4 hns hb4' hb4 hbc C3;go_wp2;go_loopw [72] (fun i wr=>∃k:Nat,k≤ns.length∧i=.int .i64 k∧NodesP wr L.mb (part (ns.take k) c.f (NP.step c.plan who lost c.sent)) q4∧Fr (fun k=>k=L.mb) w4 wr) (fun i _=>ns.length-(intOf i).toNat)
  case atStart=>exact⟨0,Nat.zero_le _,rfl,hN4',Fr.refl _ _⟩
  case round=>
   clear hN4';obtain⟨k,hk,rfl,hN,hF⟩:=hrel
   by_cases hlt:k<ns.length
   ·have hF4:Fr (fun k=>k=L.mb) w wr:=(Fr.of HB4.out).trans hF
    have hEr:=HE.out wr (hF4.own (fun k _ e=>Or.inr (Or.inr e)));have hMr:=HM4.out.map hF (fun k _ e=>e) hq4 hN
    have hrw:=ownsRow_at (ownsRow_fr HNS.out hF (fun k cur hk e=>(by
     obtain⟨es,clock,hm⟩:=HM4.out.nodes.choose_spec.2.map
     rw[e,hm] at hk;cases hk)))
    obtain⟨nb,no,rfl,hnb,hnc⟩:=hrw.int k hlt;have hnm:=(hmem.out ns[k]).1 (List.getElem_mem hlt);have hnn:=(planF_ok HI.out.plan).2.2.2 _ hnm;have hnw:=node_wf hnn;have hnt:=rising_take hrise.out hlt;have HTK:=Lib.hid (List.take_succ_eq_append_getElem hlt)
    obtain⟨x,hx⟩:∃x,c.f ns[k]=some x:=by
     have h1:=HI.out.dom ns[k];rw[decide_eq_true hnm] at h1;exact Option.isSome_iff_exists.1 h1
    have hxN:=HI.out.node _ x hx;have hxp:part (ns.take k) c.f (NP.step c.plan who lost c.sent) ns[k]=some x:=by rw[part_at hnt,hx]
    obtain⟨sa,sc,hlk0,hrow⟩:=hN.at_some' hnw hxp;have hlk:=hlk0 wr (Below.refl _ _);have e3:=hMr.cells.2.2.2;have hi0:(0:Int)≤(k:Int):=by omega
    have hi1:(k:Int)<(ns.length:Int):=by omega
    generalize ns[k]=i at *;have HX:=Lib.hid hx;have HXN:=Lib.hid hxN;have HROW:=Lib.hid hrow;have HN:=Lib.hid hN;have HNT:=Lib.hid hnt;have HF4:=Lib.hid hF4;have HF:=Lib.hid hF;have HMR:=Lib.hid hMr;have HER:=Lib.hid hEr;obtain⟨W2,hW2,S2,hb2,hz2,hc2⟩:=new6 wr 143 (.int .i64 x.st) (.int .i64 x.val) (.int .i64 x.m) (.int .i64 x.d) (.int .i64 x.s) (.slice sa x.h.length sc);clear hx hxN hrow hN hF4 hF hMr hEr hlk0 hxp hnt hrw hnm hz2 hc2
    by_cases hst:x.st=2
    ·have hd:(x.st != 2)=false:=by simpa using hst
     have HST:=Lib.hid hst;clear hst;go_upto_region 18 with(fail);rw[←hW2];clear hW2;have hlr2:=(HLR.out.fr HF4.out (fun k e=>by subst e;obtain⟨es,clock,hm⟩:=H.out.nodes.choose_spec.2.map;exact⟨es,clock,hm⟩)).below hb2;have C4:=Lib.hid (contains_any i la ln lc lost W2 HLL.out hlr2 (by omega));clear hlr2;obtain⟨B,hBe⟩:∃B:Bool,B=decide (i≠who∧i∈lost):=⟨_,rfl⟩
     have HBE:=Lib.hid hBe;clear hBe;go_cut [93] from 73 to 124 (fun s93 wx=>s93=.bool B∧W2=wx)
     case first=>
      as_aux_lemma=>
       by_cases hiw:i=who
       ·have hd2:(i != who)=false:=by simpa using hiw
        have hB:Hid (B=false):=by unfold Hid;rw[HBE.out];simp[hiw]
        clear hiw;go_wp2_with fail;go_meet
        case rel=>exact⟨by rw[hB.out],rfl⟩
       ·have hd2:(i != who)=true:=by simpa using hiw
        have hB:Hid (B=decide (i∈lost)):=by unfold Hid;rw[HBE.out];simp[hiw]
        clear hiw;go_wp2_with fail;refine C4.out.mono ?_;rintro e w'⟨rfl,rfl⟩;go_wp2_with fail;go_meet
        case rel=>exact⟨by rw[hB.out],rfl⟩
     case rest=>
      obtain⟨rfl,rfl⟩:=hcut;clear C4;obtain⟨heard,hheard⟩:∃t:List UInt8,t=if i≠who∧i∈lost then[] else c.sent:=⟨_,rfl⟩
      have HH:=Lib.hid hheard;clear hheard;go_upto_if 93 with(fail);go_cut [13] from 73 to 124 (fun s13 wx=>s13=.string ⟨heard.toArray⟩∧W2=wx)
      case first=>
       as_aux_lemma=>
        cases B
        ·have hB2:Hid (heard=c.sent):=by unfold Hid;rw[HH.out,if_neg (of_decide_eq_false HBE.out.symm)]
         go_wp2_with fail;go_meet
         case rel=>exact⟨by rw[hB2.out],rfl⟩
        ·have hB2:Hid (heard=[]):=by unfold Hid;rw[HH.out,if_pos (of_decide_eq_true HBE.out.symm)]
         go_wp2_with fail;go_meet
         case rel=>exact⟨by rw[hB2.out],rfl⟩
      case rest=>
       obtain⟨rfl,rfl⟩:=hcut;go_upto_region 20 with(fail);have hM2:=HMR.out.below hb2;have hM3:=hM2.below (below_drewN (Below.refl _ _) 1);obtain⟨ka,kb,kc,kd⟩:=hM3.cells;have k0:W2.cell? ⟨L.cb,0,none⟩=some (.slice L.pa c.plan.length L.pc):=ka;have n2:W2.cell? ⟨wr.heap.size,2,none⟩=some (.int .i64 x.m):=S2.c2;have n3:W2.cell? ⟨wr.heap.size,3,none⟩=some (.int .i64 x.d):=S2.c3;have n4:W2.cell? ⟨wr.heap.size,4,none⟩=some (.int .i64 x.s):=S2.c4;have hl0:L.cb<W2.heap.size:=hM2.lt.1;have hl2:wr.heap.size<W2.heap.size:=S2.lt
       have hstF:stepF c.plan x.m x.d x.s=(0,-1):=by
        have hMM:=HXN.out.mem HI.out.plan HST.out (by omega);have h5:=HXN.out.on HST.out;rw[stepF,if_pos hMM,if_neg (by omega)]
       have hhl:heard.length≤95:=by
        rw[HH.out];split
        ·simp
        ·exact HI.out.sent_len
       have hE2:∀W,Below W2.heap.size W2 W→Glob W ea [1,2,3,4,5,7,8]∧TxtEnv W∧RowAt W L.pa (encInts c.plan):=fun W hb=>by
        have hF0:Fr L.own w W:=((HF4.out.off hb2).off hb).own (fun k _ e=>Or.inr (Or.inr e));exact⟨(HE.out W hF0).1.sub (by simp),(HE.out W hF0).2,hM2.row.below hb⟩
       obtain⟨V,hV⟩:∃V,V=stepV c.plan x.m x.d x.s heard:=⟨_,rfl⟩
       obtain⟨E,hEE⟩:∃E,E=stepE c.plan x.m x.d x.s heard:=⟨_,rfl⟩
       have C5:Hid (∀W,Below W2.heap.size W2 W→Calls Tryz.prog 184 #[.slice L.pa c.plan.length L.pc,.agg #[.int .i64 x.m,.int .i64 x.d,.int .i64 x.s],.string ⟨heard.toArray⟩] W fun e w'=>
        e=.returned (.tuple #[.agg #[.int .i64 V.1,.int .i64 V.2.1,.int .i64 V.2.2],.agg #[.int .i64 E.slot,.int .i64 E.frm,.bool E.heard,.int .i64 E.value],.nilIface])∧Below W.heap.size W w'):=by
        intro W hb;obtain⟨g1,g2,g3⟩:=hE2 W hb;refine(step_any ea L.pa c.plan.length L.pc c.plan x.m x.d x.s heard W g1 g2 rfl g3 (by omega) (by omega)).mono ?_;rintro e w'⟨v,rfl,hEv,hb'⟩;rw[hstF] at hEv;obtain rfl:=hEv.nil;rw[hV,hEE];exact⟨rfl,hb'⟩
       have HV:=Lib.hid hV;have HEE:=Lib.hid hEE;have HHL:=Lib.hid hhl;have HM2:=Lib.hid hM2;have hkeep:∀n,W2.heap.size≤n→L.cb≠n∧wr.heap.size≠n:=fun n hn=>by omega
       clear hV hEE hstF hhl hE2 ka kb kc kd hM3 hM2;go_cut [14,15,16] from 73 to 124 (fun s14 s15 s16 wx=>∃b14 b15:Nat,s14=.pointer (some ⟨b14,0,none⟩)∧s15=.pointer (some ⟨b15,0,none⟩)∧s16=.nilIface∧Tri wx b14 (.int .i64 V.1) (.int .i64 V.2.1) (.int .i64 V.2.2)∧Quad wx b15 (.int .i64 E.slot) (.int .i64 E.frm) (.bool E.heard) (.int .i64 E.value)∧W2.heap.size≤b14∧W2.heap.size≤b15∧Below W2.heap.size W2 wx)
       case first=>
        as_aux_lemma=>
         go_region_held3 (fun w'=>w'.cell? ⟨L.cb,0,none⟩=some (.slice L.pa c.plan.length L.pc)∧w'.cell? ⟨wr.heap.size,2,none⟩=some (.int .i64 x.m)∧w'.cell? ⟨wr.heap.size,3,none⟩=some (.int .i64 x.d)∧w'.cell? ⟨wr.heap.size,4,none⟩=some (.int .i64 x.s))
          (first|go_keep|(refine⟨?_,?_,?_,?_⟩<;>(simp(disch:=(simp;omega)) only[World.cell?_setCell_far,World.cell?_alloc_lt];assumption)))
          ((go_at_call 184;(with_reducible refine(C5.out _ ?_).mono ?_);exact(by first|exact below_drewN (Below.refl _ _) 1|exact(below_drewN (Below.refl _ _) 1).alloc (by simp) _|exact((below_drewN (Below.refl _ _) 1).alloc (by simp) _).alloc (by simp) _);rintro e w7⟨rfl,hb7⟩;have hz7:=hb7.size;(first|(have hx7:=own34 hb7;obtain⟨ma0,ma1,ma2,mb0,mb1,mb2,mb3,fa0,fa1,fa2,fb0,fb1,fb2,fb3,mlt,hbw7⟩:=hx7)|(have hx7:=own43 hb7;obtain⟨mb0,mb1,mb2,mb3,ma0,ma1,ma2,fb0,fb1,fb2,fb3,fa0,fa1,fa2,mlt,hbw7⟩:=hx7)|(have hx7:=own3d hb7;obtain⟨ma0,ma1,ma2,fa0,fa1,fa2,mlt,hbw7⟩:=hx7)|(have hx7:=own4d hb7;obtain⟨mb0,mb1,mb2,mb3,fb0,fb1,fb2,fb3,mlt,hbw7⟩:=hx7)|(have hbw7:=own0 hb7));have d0:w7.cell? ⟨L.cb,0,none⟩=some (.slice L.pa c.plan.length L.pc):=(hb7.cell (p:=⟨L.cb,0,none⟩) (by simp;omega)).trans (by simp[*]);have d2:w7.cell? ⟨wr.heap.size,2,none⟩=some (.int .i64 x.m):=(hb7.cell (p:=⟨wr.heap.size,2,none⟩) (by simp;omega)).trans (by simp[*]);have d3:w7.cell? ⟨wr.heap.size,3,none⟩=some (.int .i64 x.d):=(hb7.cell (p:=⟨wr.heap.size,3,none⟩) (by simp;omega)).trans (by simp[*]);have d4:w7.cell? ⟨wr.heap.size,4,none⟩=some (.int .i64 x.s):=(hb7.cell (p:=⟨wr.heap.size,4,none⟩) (by simp;omega)).trans (by simp[*])))
         all_goals
          go_wp2_with fail;go_meet
          case rel=>
           have hzw:=hbw7.size;refine⟨_,_,rfl,rfl,rfl,?_,?_,by omega,by omega,?_⟩
           ·repeat(with_reducible first|refine Tri.new _ _ _ _ _ ?_|refine Tri.set (x:=.int .i64 0) (y:=.int .i64 0) (z:=.int .i64 0) ?_|refine(Tri.mk ma0 ma1 ma2 ?_:Tri w7 _ _ _ _)|refine Tri.setOther ?_ ?_ _ _|refine Tri.alloc ?_ _)
            all_goals(first|omega|(simp;done)|(simp;omega))
           ·repeat(with_reducible first|refine Quad.new _ _ _ _ _ _ ?_|refine Quad.set (x:=.int .i64 0) (y:=.int .i64 0) (z:=.bool false) (u:=.int .i64 0) ?_|refine(Quad.mk mb0 mb1 mb2 mb3 ?_:Quad w7 _ _ _ _ _)|refine Quad.setOther ?_ ?_ _ _|refine Quad.alloc ?_ _)
            all_goals(first|omega|(simp;done)|(simp;omega))
           ·repeat(with_reducible first|exact hbw7|refine Below.setCell ?_ ?_ _|refine Below.alloc ?_ ?_ _)
            all_goals(first|omega|(simp;done)|(simp;omega))
       case rest=>
        obtain⟨b14,b15,rfl,rfl,rfl,hT,hQ,hz14,hz15,hbx⟩:=hcut;have S5:=S2.below hbx;have hr5:=(HROW.out.below hb2).below hbx;have HBX:=Lib.hid hbx;have HB2:=Lib.hid hb2;have hl5:=S5.lt;obtain⟨i0,hi,hz0,hz1,hz2⟩:=info_parts info_entry;have hi':=Lib.hid hi;have hz0':=Lib.hid hz0;have hz1':=Lib.hid hz1;have hz2':=Lib.hid hz2;have n5:wc.cell? ⟨wr.heap.size,5,none⟩=some (.slice sa x.h.length sc):=S5.c5;have n5e:(wc.alloc (.cells #[.int .i64 E.slot,.int .i64 E.frm,.bool E.heard,.int .i64 E.value] 146)).cell? ⟨wr.heap.size,5,none⟩=some (.slice sa x.h.length sc):=(World.cell?_alloc_lt _ _ ⟨wr.heap.size,5,none⟩ hl5).trans S5.c5;have hbD:Below wc.heap.size wc wc.drew:=below_drewN (Below.refl _ _) 1;have hbE:Below wc.heap.size wc (wc.alloc (.cells #[.int .i64 E.slot,.int .i64 E.frm,.bool E.heard,.int .i64 E.value] 146)).drew:=below_drewN ((Below.refl _ _).alloc (Nat.le_refl _) _) 1;have hEw:(wc.alloc (.cells #[.int .i64 E.slot,.int .i64 E.frm,.bool E.heard,.int .i64 E.value] 146)).drew.heap[wc.heap.size]?=some (.cells #[.int .i64 E.slot,.int .i64 E.frm,.bool E.heard,.int .i64 E.value] 146 (0,0)):=heap_alloc_new wc _;have hpa:wr.heap.size≠b14:=by have:=S2.lt;omega
        have hpb:wr.heap.size≠b15:=by have:=S2.lt;omega
        have hxl:x.h.length≤200:=chk_lenC (HXN.out.on HST.out).2.2.2.2.2;have KC:=Lib.hid (fun(W:World) (hb:Below wc.heap.size wc W)=>cloneEnts_own sa x.h.length sc x.h W rfl (ownsRow_at (hr5.below hb)) (by omega));clear C5 k0 n2 n3 n4 hkeep hb2 hi hz0 hz1 hz2;go_upto_region 23 with(fail);go_cut [109] from 73 to 124 (fun _ wx=>∃(a':Option Addr) (cap':Nat),HRow wx (.slice a' (x.h.length+1) cap') (x.h++[E])∧Six wx wr.heap.size 143 (.int .i64 x.st) (.int .i64 x.val) (.int .i64 V.1) (.int .i64 V.2.1) (.int .i64 V.2.2) (.slice a' (x.h.length+1) cap')∧Fr (fun k=>k=wr.heap.size) wc wx)
        case first=>
         as_aux_lemma=>
          refine wp_region_held_drew (S:=fun w'=>Tri w' b14 (.int .i64 V.1) (.int .i64 V.2.1) (.int .i64 V.2.2)∧Quad w' b15 (.int .i64 E.slot) (.int .i64 E.frm) (.bool E.heard) (.int .i64 E.value)) (by kernel_rfl) ⟨hT.below (below_drewN (Below.refl _ _) 1),hQ.below (below_drewN (Below.refl _ _) 1)⟩ (fun hHeld=>?_);refine wpAnyH_take (i:=1) (v:=?_) rfl (by kernel_rfl) (by kernel_rfl) (by kernel_rfl) (fun _ _ _ h=>h) (Or.inl ⟨by rfl,?_⟩) (by assumption) ?_;rotate_left
          ·(intro w hSw;go_simp;try with_reducible rfl)
          try simp only[Act.put]
          try simp only[List.setIfInBounds_toArray]
          try simp only[List.set_cons_succ]
          try simp only[List.set_cons_zero]
          refine wpAnyH_take (i:=0) (v:=.agg #[.int .i64 V.1,.int .i64 V.2.1,.int .i64 V.2.2]) rfl (by kernel_rfl) (by kernel_rfl) (by kernel_rfl) (fun _ _ _ h=>h) (Or.inl ⟨by rfl,?_⟩) (by assumption) ?_
          ·(intro w hSw;obtain⟨⟨s0,s1,s2,_⟩,_⟩:=hSw;go_simp)
          try simp only[Act.put]
          try simp only[List.setIfInBounds_toArray]
          try simp only[List.set_cons_succ]
          try simp only[List.set_cons_zero]
          refine wpAnyH_take (i:=4) (v:=.agg #[.int .i64 E.slot,.int .i64 E.frm,.bool E.heard,.int .i64 E.value]) rfl (by kernel_rfl) (by kernel_rfl) (by kernel_rfl) (fun _ _ _ h=>h) (Or.inl ⟨by rfl,?_⟩) (by assumption) ?_
          ·(intro w hSw;obtain⟨_,s0,s1,s2,s3,_⟩:=hSw;go_simp)
          try simp only[Act.put]
          try simp only[List.setIfInBounds_toArray]
          try simp only[List.set_cons_succ]
          try simp only[List.set_cons_zero]
          refine wpAnyH_ready (rs:=[2,5]) (by kernel_rfl) (by simp) ?_;refine AllReadyH.cons rfl (fun K hK=>?_) ?_
          ·go_simp
           refine hK.out _ _ ?_ (fun hHeld=>?_)
           ·exact hHeld
           clear hK K
           try simp only[Act.put]
           try simp only[List.setIfInBounds_toArray]
           try simp only[List.set_cons_succ]
           try simp only[List.set_cons_zero]
           refine wpAnyH_take (i:=7) (v:=?_) rfl (by kernel_rfl) (by kernel_rfl) (by kernel_rfl) (fun _ _ _ h=>h) (Or.inl ⟨by rfl,?_⟩) (by assumption) ?_;rotate_left
           ·(intro w hSw;go_simp;try with_reducible rfl)
           try simp only[Act.put]
           try simp only[List.setIfInBounds_toArray]
           try simp only[List.set_cons_succ]
           try simp only[List.set_cons_zero]
           refine wpAnyH_ready (rs:=[3,5]) (by kernel_rfl) (by simp) ?_;refine AllReadyH.cons rfl (fun K hK=>?_) ?_
           ·go_simp
            go_at_call 84;refine(KC.out _ hbD).mono ?_;rintro e w5⟨a5,c5,rfl,ho5,hb5⟩;go_wp2_with fail;refine hK.out _ _ ?_ (fun hHeld=>?_)
            ·exact⟨hHeld.1.below hb5,hHeld.2.below hb5⟩
            clear hK K
            try simp only[Act.put]
            try simp only[List.setIfInBounds_toArray]
            try simp only[List.set_cons_succ]
            try simp only[List.set_cons_zero]
            refine wpAnyH_ready (rs:=[5]) (by kernel_rfl) (by simp) ?_;refine AllReadyH.cons rfl (fun K hK=>?_) AllReadyH.nil;go_simp;refine hK.out _ _ ?_ (fun hHeld=>?_)
            ·exact⟨hHeld.1.alloc _,hHeld.2.alloc _⟩
            clear hK K
            try simp only[Act.put]
            try simp only[List.setIfInBounds_toArray]
            try simp only[List.set_cons_succ]
            try simp only[List.set_cons_zero]
            refine wpAnyH_ready (rs:=[6]) (by kernel_rfl) (by simp) ?_;refine AllReadyH.cons rfl (fun K hK=>?_) AllReadyH.nil;have hB5:Below wc.heap.size wc (w5.alloc (.cells #[.int .i64 E.slot,.int .i64 E.frm,.bool E.heard,.int .i64 E.value] 146)):=(hbD.trans (hb5.mono hbD.size)).alloc (Nat.le_trans hbD.size hb5.size) _;have hO5:(w5.alloc (.cells #[.int .i64 E.slot,.int .i64 E.frm,.bool E.heard,.int .i64 E.value] 146)).ownsRow 0 146 4 (.slice a5 x.h.length c5) x.h.length (encEnts x.h):=(ownsRow_rebase ho5 (Nat.zero_le _)).alloc _;have hlo5:∀j,(Value.slice a5 x.h.length c5).ownBlock=some j→wc.heap.size≤j:=fun j e=>Nat.le_trans hbD.size (ho5.lt j e).1
            have hEb:=heap_alloc_new w5 (.cells #[.int .i64 E.slot,.int .i64 E.frm,.bool E.heard,.int .i64 E.value] 146);refine step_append_lies _ (by rfl) _ _ 97 (by rfl) 0 146 i0 _ 4 32 Tryz.underlying97 hi'.out hz0'.out hz1'.out hz2'.out rfl (by omega) (.slice a5 x.h.length c5) x.h.length (encEnts x.h) (by rfl) hO5 ⟨w5.heap.size,0,none⟩ 1 1 E.cells (by rfl) (by rfl) (World.news_of_block (cs:=E.cells.toArray) (t:=146) (fr:=(0,0)) hEb) (Ent.one E) (by omega) (by unfold maxLen;omega) (by omega) (Nat.zero_le _) _ rfl ?_;intro gg cap w6 ho6 hg6 _ _;have hne6:∀k,k<wc.heap.size→some k≠(Value.slice a5 x.h.length c5).ownBlock:=fun k hk e=>by have:=hlo5 k e.symm;omega
            have hB6:Below wc.heap.size wc w6:=hB5.grown hg6 hB5.size hlo5;have S6:=S5.below hB6;obtain⟨_,q0,q1,q2,q3,q4,q5,qf,ql⟩:=S6;have hH6:HRow w6 (.slice (some ⟨gg,0,none⟩) (x.h.length+1) cap) (x.h++[E]):=by rw[HRow,List.length_append,List.length_singleton,encEnts_snoc];exact ho6
            have HH6:=Lib.hid hH6;have HB6:=Lib.hid hB6;have HS6:=Lib.hid (S5.below hB6);refine hK.out _ _ ?_ (fun hHeld=>?_)
            ·exact⟨hT.below hB6,hQ.below hB6⟩
            clear hK K
            try simp only[Act.put]
            try simp only[List.setIfInBounds_toArray]
            try simp only[List.set_cons_succ]
            try simp only[List.set_cons_zero]
            refine wpAnyH_ready (rs:=[8]) (by kernel_rfl) (by simp) ?_;refine AllReadyH.cons rfl (fun K hK=>?_) AllReadyH.nil;go_simp;refine hK.out _ _ ?_ (fun hHeld=>?_)
            ·exact⟨((hHeld.1.setOther hpa _ _).setOther hpa _ _).setOther hpa _ _,((hHeld.2.setOther hpb _ _).setOther hpb _ _).setOther hpb _ _⟩
            clear hK K
            try simp only[Act.put]
            try simp only[List.setIfInBounds_toArray]
            try simp only[List.set_cons_succ]
            try simp only[List.set_cons_zero]
            refine wpAnyH_take (i:=9) (v:=?_) rfl (by kernel_rfl) (by kernel_rfl) (by kernel_rfl) (fun _ _ _ h=>h) (Or.inl ⟨by rfl,?_⟩) (by assumption) ?_;rotate_left
            ·(intro w hSw;go_simp;try with_reducible rfl)
            try simp only[Act.put]
            try simp only[List.setIfInBounds_toArray]
            try simp only[List.set_cons_succ]
            try simp only[List.set_cons_zero]
            refine wpAnyH_ready (rs:=[10]) (by kernel_rfl) (by simp) ?_;refine AllReadyH.cons rfl (fun K hK=>?_) AllReadyH.nil;go_simp;refine hK.out _ _ ?_ (fun hHeld=>?_)
            ·exact⟨hHeld.1.setOther hpa _ _,hHeld.2.setOther hpb _ _⟩
            clear hK K
            try simp only[Act.put]
            try simp only[List.setIfInBounds_toArray]
            try simp only[List.set_cons_succ]
            try simp only[List.set_cons_zero]
            refine wpAnyH_done (by kernel_rfl) ?_ _;have hF8:=HS6.out.set4 (.int .i64 V.1) (.int .i64 V.2.1) (.int .i64 V.2.2) (.slice (some ⟨gg,0,none⟩) (x.h.length+1) cap);have hR8:=HH6.out.set4 HS6.out (.int .i64 V.1) (.int .i64 V.2.1) (.int .i64 V.2.2) (.slice (some ⟨gg,0,none⟩) (x.h.length+1) cap);have hX8:=fr_set4 wr.heap.size HB6.out (.int .i64 V.1) (.int .i64 V.2.1) (.int .i64 V.2.2) (.slice (some ⟨gg,0,none⟩) (x.h.length+1) cap);have HF8:=Lib.hid hF8;have HR8:=Lib.hid hR8;have HX8:=Lib.hid hX8;clear hF8 hR8 hX8;go_wp2_with fail;go_meet
            case rel=>exact⟨_,_,HR8.out,HF8.out,HX8.out⟩
           refine AllReadyH.cons rfl (fun K hK=>?_) AllReadyH.nil;go_simp;refine hK.out _ _ ?_ (fun hHeld=>?_)
           ·exact⟨hHeld.1.alloc _,hHeld.2.alloc _⟩
           clear hK K
           try simp only[Act.put]
           try simp only[List.setIfInBounds_toArray]
           try simp only[List.set_cons_succ]
           try simp only[List.set_cons_zero]
           refine wpAnyH_ready (rs:=[3]) (by kernel_rfl) (by simp) ?_;refine AllReadyH.cons rfl (fun K hK=>?_) AllReadyH.nil;go_simp;go_at_call 84;refine(KC.out _ hbE).mono ?_;rintro e w5⟨a5,c5,rfl,ho5,hb5⟩;go_wp2_with fail;refine hK.out _ _ ?_ (fun hHeld=>?_)
           ·exact⟨hHeld.1.below hb5,hHeld.2.below hb5⟩
           clear hK K
           try simp only[Act.put]
           try simp only[List.setIfInBounds_toArray]
           try simp only[List.set_cons_succ]
           try simp only[List.set_cons_zero]
           refine wpAnyH_ready (rs:=[6]) (by kernel_rfl) (by simp) ?_;refine AllReadyH.cons rfl (fun K hK=>?_) AllReadyH.nil;have hB5:Below wc.heap.size wc w5:=hbE.trans (hb5.mono hbE.size);have hO5:w5.ownsRow 0 146 4 (.slice a5 x.h.length c5) x.h.length (encEnts x.h):=ownsRow_rebase ho5 (Nat.zero_le _);have hlo5:∀j,(Value.slice a5 x.h.length c5).ownBlock=some j→wc.heap.size≤j:=fun j e=>Nat.le_trans hbE.size (ho5.lt j e).1
           have hEb:=(hb5.block wc.heap.size (by simp)).trans hEw;refine step_append_lies _ (by rfl) _ _ 97 (by rfl) 0 146 i0 _ 4 32 Tryz.underlying97 hi'.out hz0'.out hz1'.out hz2'.out rfl (by omega) (.slice a5 x.h.length c5) x.h.length (encEnts x.h) (by rfl) hO5 ⟨wc.heap.size,0,none⟩ 1 1 E.cells (by rfl) (by rfl) (World.news_of_block (cs:=E.cells.toArray) (t:=146) (fr:=(0,0)) hEb) (Ent.one E) (by omega) (by unfold maxLen;omega) (by omega) (Nat.zero_le _) _ rfl ?_;intro gg cap w6 ho6 hg6 _ _;have hne6:∀k,k<wc.heap.size→some k≠(Value.slice a5 x.h.length c5).ownBlock:=fun k hk e=>by have:=hlo5 k e.symm;omega
           have hB6:Below wc.heap.size wc w6:=hB5.grown hg6 hB5.size hlo5;have S6:=S5.below hB6;obtain⟨_,q0,q1,q2,q3,q4,q5,qf,ql⟩:=S6;have hH6:HRow w6 (.slice (some ⟨gg,0,none⟩) (x.h.length+1) cap) (x.h++[E]):=by rw[HRow,List.length_append,List.length_singleton,encEnts_snoc];exact ho6
           have HH6:=Lib.hid hH6;have HB6:=Lib.hid hB6;have HS6:=Lib.hid (S5.below hB6);refine hK.out _ _ ?_ (fun hHeld=>?_)
           ·exact⟨hT.below hB6,hQ.below hB6⟩
           clear hK K
           try simp only[Act.put]
           try simp only[List.setIfInBounds_toArray]
           try simp only[List.set_cons_succ]
           try simp only[List.set_cons_zero]
           refine wpAnyH_ready (rs:=[8]) (by kernel_rfl) (by simp) ?_;refine AllReadyH.cons rfl (fun K hK=>?_) AllReadyH.nil;go_simp;refine hK.out _ _ ?_ (fun hHeld=>?_)
           ·exact⟨((hHeld.1.setOther hpa _ _).setOther hpa _ _).setOther hpa _ _,((hHeld.2.setOther hpb _ _).setOther hpb _ _).setOther hpb _ _⟩
           clear hK K
           try simp only[Act.put]
           try simp only[List.setIfInBounds_toArray]
           try simp only[List.set_cons_succ]
           try simp only[List.set_cons_zero]
           refine wpAnyH_take (i:=9) (v:=?_) rfl (by kernel_rfl) (by kernel_rfl) (by kernel_rfl) (fun _ _ _ h=>h) (Or.inl ⟨by rfl,?_⟩) (by assumption) ?_;rotate_left
           ·(intro w hSw;go_simp;try with_reducible rfl)
           try simp only[Act.put]
           try simp only[List.setIfInBounds_toArray]
           try simp only[List.set_cons_succ]
           try simp only[List.set_cons_zero]
           refine wpAnyH_ready (rs:=[10]) (by kernel_rfl) (by simp) ?_;refine AllReadyH.cons rfl (fun K hK=>?_) AllReadyH.nil;go_simp;refine hK.out _ _ ?_ (fun hHeld=>?_)
           ·exact⟨hHeld.1.setOther hpa _ _,hHeld.2.setOther hpb _ _⟩
           clear hK K
           try simp only[Act.put]
           try simp only[List.setIfInBounds_toArray]
           try simp only[List.set_cons_succ]
           try simp only[List.set_cons_zero]
           refine wpAnyH_done (by kernel_rfl) ?_ _;have hF8:=HS6.out.set4 (.int .i64 V.1) (.int .i64 V.2.1) (.int .i64 V.2.2) (.slice (some ⟨gg,0,none⟩) (x.h.length+1) cap);have hR8:=HH6.out.set4 HS6.out (.int .i64 V.1) (.int .i64 V.2.1) (.int .i64 V.2.2) (.slice (some ⟨gg,0,none⟩) (x.h.length+1) cap);have hX8:=fr_set4 wr.heap.size HB6.out (.int .i64 V.1) (.int .i64 V.2.1) (.int .i64 V.2.2) (.slice (some ⟨gg,0,none⟩) (x.h.length+1) cap);have HF8:=Lib.hid hF8;have HR8:=Lib.hid hR8;have HX8:=Lib.hid hX8;clear hF8 hR8 hX8;go_wp2_with fail;go_meet
           case rel=>exact⟨_,_,HR8.out,HF8.out,HX8.out⟩
          refine AllReadyH.cons rfl (fun K hK=>?_) AllReadyH.nil;go_simp;refine hK.out _ _ ?_ (fun hHeld=>?_)
          ·exact⟨hHeld.1.alloc _,hHeld.2.alloc _⟩
          clear hK K
          try simp only[Act.put]
          try simp only[List.setIfInBounds_toArray]
          try simp only[List.set_cons_succ]
          try simp only[List.set_cons_zero]
          refine wpAnyH_ready (rs:=[2]) (by kernel_rfl) (by simp) ?_;refine AllReadyH.cons rfl (fun K hK=>?_) AllReadyH.nil;go_simp;refine hK.out _ _ ?_ (fun hHeld=>?_)
          ·exact hHeld
          clear hK K
          try simp only[Act.put]
          try simp only[List.setIfInBounds_toArray]
          try simp only[List.set_cons_succ]
          try simp only[List.set_cons_zero]
          refine wpAnyH_take (i:=7) (v:=?_) rfl (by kernel_rfl) (by kernel_rfl) (by kernel_rfl) (fun _ _ _ h=>h) (Or.inl ⟨by rfl,?_⟩) (by assumption) ?_;rotate_left
          ·(intro w hSw;go_simp;try with_reducible rfl)
          try simp only[Act.put]
          try simp only[List.setIfInBounds_toArray]
          try simp only[List.set_cons_succ]
          try simp only[List.set_cons_zero]
          refine wpAnyH_ready (rs:=[3]) (by kernel_rfl) (by simp) ?_;refine AllReadyH.cons rfl (fun K hK=>?_) AllReadyH.nil;go_simp;go_at_call 84;refine(KC.out _ hbE).mono ?_;rintro e w5⟨a5,c5,rfl,ho5,hb5⟩;go_wp2_with fail;refine hK.out _ _ ?_ (fun hHeld=>?_)
          ·exact⟨hHeld.1.below hb5,hHeld.2.below hb5⟩
          clear hK K
          try simp only[Act.put]
          try simp only[List.setIfInBounds_toArray]
          try simp only[List.set_cons_succ]
          try simp only[List.set_cons_zero]
          refine wpAnyH_ready (rs:=[6]) (by kernel_rfl) (by simp) ?_;refine AllReadyH.cons rfl (fun K hK=>?_) AllReadyH.nil;have hB5:Below wc.heap.size wc w5:=hbE.trans (hb5.mono hbE.size);have hO5:w5.ownsRow 0 146 4 (.slice a5 x.h.length c5) x.h.length (encEnts x.h):=ownsRow_rebase ho5 (Nat.zero_le _);have hlo5:∀j,(Value.slice a5 x.h.length c5).ownBlock=some j→wc.heap.size≤j:=fun j e=>Nat.le_trans hbE.size (ho5.lt j e).1
          have hEb:=(hb5.block wc.heap.size (by simp)).trans hEw;refine step_append_lies _ (by rfl) _ _ 97 (by rfl) 0 146 i0 _ 4 32 Tryz.underlying97 hi'.out hz0'.out hz1'.out hz2'.out rfl (by omega) (.slice a5 x.h.length c5) x.h.length (encEnts x.h) (by rfl) hO5 ⟨wc.heap.size,0,none⟩ 1 1 E.cells (by rfl) (by rfl) (World.news_of_block (cs:=E.cells.toArray) (t:=146) (fr:=(0,0)) hEb) (Ent.one E) (by omega) (by unfold maxLen;omega) (by omega) (Nat.zero_le _) _ rfl ?_;intro gg cap w6 ho6 hg6 _ _;have hne6:∀k,k<wc.heap.size→some k≠(Value.slice a5 x.h.length c5).ownBlock:=fun k hk e=>by have:=hlo5 k e.symm;omega
          have hB6:Below wc.heap.size wc w6:=hB5.grown hg6 hB5.size hlo5;have S6:=S5.below hB6;obtain⟨_,q0,q1,q2,q3,q4,q5,qf,ql⟩:=S6;have hH6:HRow w6 (.slice (some ⟨gg,0,none⟩) (x.h.length+1) cap) (x.h++[E]):=by rw[HRow,List.length_append,List.length_singleton,encEnts_snoc];exact ho6
          have HH6:=Lib.hid hH6;have HB6:=Lib.hid hB6;have HS6:=Lib.hid (S5.below hB6);refine hK.out _ _ ?_ (fun hHeld=>?_)
          ·exact⟨hT.below hB6,hQ.below hB6⟩
          clear hK K
          try simp only[Act.put]
          try simp only[List.setIfInBounds_toArray]
          try simp only[List.set_cons_succ]
          try simp only[List.set_cons_zero]
          refine wpAnyH_ready (rs:=[8]) (by kernel_rfl) (by simp) ?_;refine AllReadyH.cons rfl (fun K hK=>?_) AllReadyH.nil;go_simp;refine hK.out _ _ ?_ (fun hHeld=>?_)
          ·exact⟨((hHeld.1.setOther hpa _ _).setOther hpa _ _).setOther hpa _ _,((hHeld.2.setOther hpb _ _).setOther hpb _ _).setOther hpb _ _⟩
          clear hK K
          try simp only[Act.put]
          try simp only[List.setIfInBounds_toArray]
          try simp only[List.set_cons_succ]
          try simp only[List.set_cons_zero]
          refine wpAnyH_take (i:=9) (v:=?_) rfl (by kernel_rfl) (by kernel_rfl) (by kernel_rfl) (fun _ _ _ h=>h) (Or.inl ⟨by rfl,?_⟩) (by assumption) ?_;rotate_left
          ·(intro w hSw;go_simp;try with_reducible rfl)
          try simp only[Act.put]
          try simp only[List.setIfInBounds_toArray]
          try simp only[List.set_cons_succ]
          try simp only[List.set_cons_zero]
          refine wpAnyH_ready (rs:=[10]) (by kernel_rfl) (by simp) ?_;refine AllReadyH.cons rfl (fun K hK=>?_) AllReadyH.nil;go_simp;refine hK.out _ _ ?_ (fun hHeld=>?_)
          ·exact⟨hHeld.1.setOther hpa _ _,hHeld.2.setOther hpb _ _⟩
          clear hK K
          try simp only[Act.put]
          try simp only[List.setIfInBounds_toArray]
          try simp only[List.set_cons_succ]
          try simp only[List.set_cons_zero]
          refine wpAnyH_done (by kernel_rfl) ?_ _;have hF8:=HS6.out.set4 (.int .i64 V.1) (.int .i64 V.2.1) (.int .i64 V.2.2) (.slice (some ⟨gg,0,none⟩) (x.h.length+1) cap);have hR8:=HH6.out.set4 HS6.out (.int .i64 V.1) (.int .i64 V.2.1) (.int .i64 V.2.2) (.slice (some ⟨gg,0,none⟩) (x.h.length+1) cap);have hX8:=fr_set4 wr.heap.size HB6.out (.int .i64 V.1) (.int .i64 V.2.1) (.int .i64 V.2.2) (.slice (some ⟨gg,0,none⟩) (x.h.length+1) cap);have HF8:=Lib.hid hF8;have HR8:=Lib.hid hR8;have HX8:=Lib.hid hX8;clear hF8 hR8 hX8;go_wp2_with fail;go_meet
          case rel=>exact⟨_,_,HR8.out,HF8.out,HX8.out⟩
        case rest=>
         obtain⟨a9,cap9,hH9,S9,hF9⟩:=hcut
         have hNx:NodesP wc L.mb (part (ns.take k) c.f (NP.step c.plan who lost c.sent)) q4:=((HN.out.below HB2.out).below HBX.out).fr hF9 (fun e=>by have:=HN.out.lt;omega) (fun j cur hj e=>by
          obtain⟨cur2,ho⟩:=S5.obj;subst e
          rw[ho] at hj;injection hj with hj;injection hj with _ e2;revert e2;decide)
         have hNd:=Lib.hid (hNx.below (below_drewN (Below.refl _ _) 1));have hHd:=Lib.hid (hH9.below (below_drewN (Below.refl wc.heap.size wc) 1));have hFw:Fr (fun k=>k=L.mb) w4 wc:=((HF.out.off HB2.out).off HBX.out).then hF9 (fun i e=>Or.inr (by rw[e];exact HF.out.size))
         have hst2:NP.step c.plan who lost c.sent i x=⟨x.st,x.val,V.1,V.2.1,V.2.2,x.h++[E]⟩:=by
          rw[NP.step,if_pos HST.out,←HH.out,←HV.out,←HEE.out,HST.out]
         have HST2:=Lib.hid hst2;have e3x:=(HMR.out.cells).2.2.2
         have e3c:wc.cell? ⟨L.cb,3,none⟩=some (.map (some L.mb)):=by
          have h1:=(hF9.block L.cb (Nat.lt_of_lt_of_le (Nat.lt_of_lt_of_le HMR.out.lt.1 HB2.out.size) HBX.out.size) (fun e=>by have:=HMR.out.lt.1;omega));have h2:=(HBX.out.cell (p:=⟨L.cb,3,none⟩) (Nat.lt_of_lt_of_le HMR.out.lt.1 HB2.out.size)).trans ((HB2.out.cell (p:=⟨L.cb,3,none⟩) HMR.out.lt.1).trans e3x);simp only[World.cell?,h1] at h2 ⊢;exact h2
         obtain⟨_,q0,q1,q2,q3,q4',q5,qf,ql⟩:=S9;have HFw:=Lib.hid hFw;have hpi:=Lib.hid (part_put (k:=NP.step c.plan who lost c.sent) (ds:=ns.take k) HX.out HST2.out);have hpa2:Hid ((part (ns.take k) c.f (NP.step c.plan who lost c.sent) i).isSome=true):=by unfold Hid;rw[part_at HNT.out,HX.out];rfl
         clear hNx hH9 hFw hst2 e3x hF9 hT hQ qf n5 n5e hbD hbE hEw KC;go_wp2;go_still_tail 6,(by kernel_rfl)
         change wpList _ _ _ _ _ wc.drew
         go_wp2_with (at_mapUpdate;refine wpList_put_nodes rfl _ _ _ rfl (mb:=L.mb) (i:=i) (x:=⟨x.st,x.val,V.1,V.2.1,V.2.2,x.h++[E]⟩) (sl:=.slice a9 (x.h.length+1) cap9) rfl hNd.out (by omega) rfl rfl hnw hHd.out ?_;intro wz hNz hgz);rw[if_pos hpa2.out,hpi.out,←HTK.out] at hNz;have HNZ:=Lib.hid hNz;have HFZ:Hid (Fr (fun k=>k=L.mb) w4 wz):=(HFw.out.drewN 1).trans (Fr.grown hgz (fun k e=>by injection e with e;exact e.symm));clear hNz hgz
         as_aux_lemma=>
          go_roundw
          case rel=>(first|exact⟨k+1,by omega,by go_num,HNZ.out,HFZ.out⟩|((repeat apply Exists.intro);exact⟨⟨k+1,by omega,by go_num,HNZ.out,HFZ.out⟩,rfl⟩))
          case measure=>simp[intOf];omega
    ·have hd:(x.st != 2)=true:=by simpa using hst
     have hsk:part (ns.take k) c.f (NP.step c.plan who lost c.sent)=part (ns.take (k+1)) c.f (NP.step c.plan who lost c.sent):=by
      rw[HTK.out];exact part_skip HX.out (by rw[NP.step,if_neg hst])
     have hN5:Hid (NodesP W2 L.mb (part (ns.take (k+1)) c.f (NP.step c.plan who lost c.sent)) q4):=by
      have h0:=HN.out.below hb2;rw[hsk] at h0;exact h0
     have HF5:=Lib.hid (HF.out.off hb2);clear hst hsk
     as_aux_lemma=>
      go_wp2;rw[←hW2];go_roundw
      case rel=>exact⟨k+1,by omega,by go_num,hN5.out,HF5.out⟩
      case measure=>simp[intOf];omega
   ·obtain rfl:k=ns.length:=by omega
    have hfull:part (ns.take ns.length) c.f (NP.step c.plan who lost c.sent)=c.f1 lost:=by
     rw[List.take_length,part_all (fun i x h=>(hmem.out i).2 (by have h1:=HI.out.dom i;rw[h] at h1;simpa using h1.symm)),←HWHO.out]
     rfl
    rw[hfull] at hN;have hF4:Fr (fun k=>k=L.mb) w wr:=(Fr.of HB4.out).trans hF;have hEr:=HE.out wr (hF4.own (fun k _ e=>Or.inr (Or.inr e)));obtain⟨G,hG⟩:∃G,G=frameF c.sent:=⟨_,rfl⟩
    have C6:Hid (Calls Tryz.prog 185 #[.string ⟨c.sent.toArray⟩] wr fun e w'=>e=.returned (.tuple #[.agg #[.int .i64 G.2.frm,.int .i64 G.2.mem,.int .i64 G.2.mode,.int .i64 G.2.slot,.int .i64 G.2.value],errV ea G.1])∧Below wr.heap.size wr w'):=by
     have h:=fread_any ea c.sent wr (hEr.1.sub (by simp)) hEr.2 (by have:=HI.out.sent_len;omega);rw[←hG] at h;exact h
    have HG:=Lib.hid hG;have HN:=Lib.hid hN;have HF4:=Lib.hid hF4;clear hfull hN hF hF4 hEr hG;obtain⟨EV,hEV⟩:∃EV,EV=errV ea G.1:=⟨_,rfl⟩
    rw[←hEV] at C6
    have hev:(G.1=0∧EV=.nilIface)∨(G.1≠0∧∃t p,EV=.iface t p):=by
     by_cases h:G.1=0
     ·exact Or.inl ⟨h,by rw[hEV,h,errV_zero]⟩
     ·exact Or.inr ⟨h,_,_,by rw[hEV,errV_pos ea h]⟩
    have HEV:=Lib.hid hev;clear hEV hev;obtain⟨BB,hBB⟩:∃BB:Bool,BB=decide (G.1=0):=⟨_,rfl⟩
    have HBB:=Lib.hid hBB;clear hBB;go_wp2_with fail;refine C6.out.mono ?_;rintro e w6⟨rfl,hb6⟩;have hb7:Below wr.heap.size wr (w6.alloc (.cells #[.int .i64 G.2.frm,.int .i64 G.2.mem,.int .i64 G.2.mode,.int .i64 G.2.slot,.int .i64 G.2.value] 256)):=hb6.alloc hb6.size _;obtain⟨W7,hW7⟩:∃W7,W7=w6.alloc (.cells #[.int .i64 G.2.frm,.int .i64 G.2.mem,.int .i64 G.2.mode,.int .i64 G.2.slot,.int .i64 G.2.value] 256):=⟨_,rfl⟩
    rw[←hW7] at hb7;have hN7:=Lib.hid (HN.out.below hb7);have hF7:=Lib.hid (HF4.out.off hb7);clear hb6 C6 hb7;go_upto_region 27 with(fail);rw[←hW7];clear hW7;go_cut [131] (fun s131 wx=>s131=.bool BB∧W7=wx)
    case first=>
     as_aux_lemma=>
      rcases HEV.out with⟨h0,rfl⟩|⟨h0,t0,p0,rfl⟩
      ·have hB:Hid (BB=true):=by unfold Hid;rw[HBB.out,decide_eq_true h0]
       clear h0;go_wp2_with fail;go_meet
       case rel=>exact⟨by rw[hB.out],rfl⟩
      ·have hB:Hid (BB=false):=by unfold Hid;rw[HBB.out,decide_eq_false h0]
       clear h0;go_wp2_with fail;go_meet
       case rel=>exact⟨by rw[hB.out],rfl⟩
    case rest=>
     obtain⟨rfl,rfl⟩:=hcut;go_upto_if 131 with(fail);go_cut [137] (fun _ wx=>NodesP wx L.mb (c.f2 lost) q4∧Fr (fun k=>k=L.mb) w wx)
     case first=>
      cases BB
      ·have hne:(frameF c.sent).1≠0:=by rw[←HG.out];exact of_decide_eq_false HBB.out.symm
       have hN8:=hN7.out;rw[←CP.f2_no (lost:=lost) hne] at hN8;have HN8:=Lib.hid hN8;clear hne hN8;go_wp2_with fail;go_meet
       case rel=>exact⟨HN8.out,hF7.out⟩
      ·have hes:(frameF c.sent).1=0:=by rw[←HG.out];exact of_decide_eq_true HBB.out.symm
       obtain⟨Y,hY,hYst,hf2⟩:=CP.f2_eq (lost:=lost) hes;rw[HWHO.out] at hY;have HF2:Hid (c.f2 lost=fun i=>(c.f1 lost i).map (NP.join Y lost i)):=funext hf2;have e3:=(H.out.map hF7.out (fun k _ e=>e) hq4 hN7.out).cells.2.2.2;have HY:=Lib.hid hY;have HYST:=Lib.hid hYst
       have HYL:Hid (Y.h.length≤1000):=by
        have h1:=((HI.out.f1 ht lost).2 who Y hY).on hYst;have:=h1.2.2.2.2.1
        show _≤_;omega
       have hwi0:=hwi;clear hes hf2 hY hYst;generalize c.f1 lost=f1 at *;go_wp2_with (at_range;refine wpList_range_p rfl _ rfl rfl hN7.out ?_;intro w8 hR8 hb8 hz8);go_frame;have hR8':RangeP w8 L.mb W7.heap.size (halfI (fun i=>(f1 i).isSome) f1 (NP.join Y lost)) q4 (fun i=>(f1 i).isSome) q4:=by rw[halfI_start];exact hR8
       have hF8:Fr (fun k=>k=L.mb) w w8:=hF7.out.off hb8;go_loopw [137] (fun _ wr=>∃(left:Int→Bool) (cnt:Nat),RangeP wr L.mb W7.heap.size (halfI left f1 (NP.join Y lost)) q4 left cnt∧Fr (fun k=>k=L.mb) w wr) (fun _ wr=>wr.rangeLeft L.mb W7.heap.size)
       case atStart=>exact⟨_,q4,hR8',hF8⟩
       case round=>
        clear hR8 hb8 hz8 hR8' hF8 e3;obtain⟨left,cnt,hR,hF⟩:=hrel;have HR:=Lib.hid hR;have HFx:=Lib.hid hF;clear hF;go_wp2_with (at_next;refine wpList_next_p rfl _ rfl rfl hR ?_ ?_)
        ·intro hc0 hl0
         have hN9:=HR.out.at;rw[halfI_end hl0,←HF2.out] at hN9;have HN9:=Lib.hid hN9;clear hc0 hl0 hN9 hR;go_wp2_with fail;go_meet
         case rel=>exact⟨HN9.out,HFx.out⟩
        ·intro i x sa sc w1 cnt1 hwi hli hgi hrow hR1 hlt hg1 hz1 hen
         rw[halfI_at hli] at hgi;have HZ1:=Lib.hid hz1;have hw7:w.heap.size≤W7.heap.size:=hF7.out.size;have hF1:Fr (fun k=>k=L.mb) w w1:=HFx.out.then (S':=fun k=>k=W7.heap.size) (Fr.grown hg1 (fun k e=>by injection e with e;exact e.symm)) (fun i e=>Or.inr (by omega));obtain⟨W2,hW2,S2,hb2,hz2,hc2⟩:=new6 w1 143 (.int .i64 x.st) (.int .i64 x.val) (.int .i64 x.m) (.int .i64 x.d) (.int .i64 x.s) (.slice sa x.h.length sc);have hF2:Fr (fun k=>k=L.mb) w W2:=hF1.off hb2;have HR2:=Lib.hid (hR1.below hb2);have HFy:=Lib.hid hF2;have hlr2:=HLR.out.fr hF2 (fun k e=>by subst e;obtain⟨es,clock,hm⟩:=H.out.nodes.choose_spec.2.map;exact⟨es,clock,hm⟩);have C4:=Lib.hid (contains_any i la ln lc lost W2 HLL.out hlr2 (by omega));clear hz1 hg1 hF1 hF2 hc2 hlr2 hrow hR1 hR
         by_cases hst:x.st=1
         ·have hd:(x.st==1)=true:=by simpa using hst
          by_cases hil:i∈lost
          ·have hR3:Hid (RangeP W2 L.mb W7.heap.size (halfI (fun j=>left j&&!(j==i)) f1 (NP.join Y lost)) q4 (fun j=>left j&&!(j==i)) cnt1):=by
            have h0:=HR2.out;rw[halfI_skip hgi (by rw[NP.join,if_neg (fun e=>e.2 hil)])] at h0;exact h0
           have hb0:Hid (decide (i∈lost)=true):=decide_eq_true hil;rw[hb0.out] at C4;clear hst hil;go_wp2_with fail;rw[←hW2];clear hW2;refine C4.out.mono ?_;rintro e w'⟨rfl,rfl⟩;go_wp2;refine⟨⟨_,cnt1,hR3.out,HFy.out⟩,?_⟩;rw[hR3.out.left_eq,HR.out.left_eq];exact hlt
          ·have hb0:Hid (decide (i∈lost)=false):=decide_eq_false hil
           rw[hb0.out] at C4;have hJ:Hid (NP.join Y lost i x=⟨2,x.val,Y.m,Y.d,Y.s,Y.h⟩):=by unfold Hid NP.join;rw[if_pos ⟨hst,hil⟩]
           clear hst hil
           have hgw:halfI left f1 (NP.join Y lost) who=some Y:=by
            unfold halfI;rw[HY.out]
            split
            ·rfl
            ·rw[Option.map_some,NP.join,if_neg (fun e=>by have:=HYST.out;omega)]
           have e3:=(H.out.map HFy.out (fun k _ e=>e) hq4 HR2.out.at).cells.2.2.2;obtain⟨ya,yc,hlk0,hyr⟩:=HR2.out.at.at_some' hwi0 hgw;have hlk:=hlk0 W2 (Below.refl _ _);obtain⟨W3,hW3,S3,hb3,hz3,hc3⟩:=new6 W2 143 (.int .i64 Y.st) (.int .i64 Y.val) (.int .i64 Y.m) (.int .i64 Y.d) (.int .i64 Y.s) (.slice ya Y.h.length yc);have hlC:L.cb<W3.heap.size:=by have:=HFy.out.size;have:=hb3.size;omega
           have hS0:W3.drew.cell? ⟨L.cb,3,none⟩=some (.map (some L.mb))∧W3.drew.cell? ⟨w1.heap.size,1,none⟩=some (.int .i64 x.val)∧W3.drew.cell? ⟨W2.heap.size,2,none⟩=some (.int .i64 Y.m)∧W3.drew.cell? ⟨W2.heap.size,3,none⟩=some (.int .i64 Y.d)∧W3.drew.cell? ⟨W2.heap.size,4,none⟩=some (.int .i64 Y.s)∧W3.drew.cell? ⟨W2.heap.size,5,none⟩=some (.slice ya Y.h.length yc):=
            ⟨(hb3.cell (p:=⟨L.cb,3,none⟩) (by have:=HFy.out.size;show L.cb<W2.heap.size;omega)).trans e3,(S2.below hb3).c1,S3.c2,S3.c3,S3.c4,S3.c5⟩
           have hlS:L.cb<W3.heap.size∧w1.heap.size<W3.heap.size∧W2.heap.size<W3.heap.size:=⟨hlC,(S2.below hb3).lt,S3.lt⟩;have hmS:L.mb≠L.cb∧L.mb≠w1.heap.size∧L.mb≠W2.heap.size:=⟨H.out.apart.2.1,by have:=HR.out.at.lt;have:=HZ1.out;omega,by have:=HFy.out.size;omega⟩;have hRd:=Lib.hid ((HR2.out.below hb3).below (below_drewN (Below.refl _ _) 1));have HF3:=Lib.hid (HFy.out.off hb3);have hyl:Y.h.length≤1000:=HYL.out;have KC:=Lib.hid (cloneEnts_own ya Y.h.length yc Y.h W3.drew rfl (ownsRow_at ((hyr.below hb3).below (below_drewN (Below.refl _ _) 1))) (by omega));clear hgw hlk0 hyr hz3 hc3 hb3 hlC hz2 hb2;go_wp2_with fail;rw[←hW2];clear hW2;refine C4.out.mono ?_;rintro e w'⟨rfl,rfl⟩;go_upto_region 33 with(fail);rw[←hW3];clear hW3;refine wp_region_held_drew (S:=fun w'=>w'.cell? ⟨L.cb,3,none⟩=some (.map (some L.mb))∧w'.cell? ⟨w1.heap.size,1,none⟩=some (.int .i64 x.val)∧w'.cell? ⟨W2.heap.size,2,none⟩=some (.int .i64 Y.m)∧w'.cell? ⟨W2.heap.size,3,none⟩=some (.int .i64 Y.d)∧w'.cell? ⟨W2.heap.size,4,none⟩=some (.int .i64 Y.s)∧w'.cell? ⟨W2.heap.size,5,none⟩=some (.slice ya Y.h.length yc)) (by kernel_rfl) hS0 (fun hHeld=>?_);refine wpAnyH_take (i:=0) (v:=?_) rfl (by kernel_rfl) (by kernel_rfl) (by kernel_rfl) (fun _ _ _ h=>h) (Or.inl ⟨by rfl,?_⟩) (by assumption) ?_;rotate_left
           ·(intro w hSw;go_simp;try with_reducible rfl)
           try simp only[Act.put]
           try simp only[List.setIfInBounds_toArray]
           try simp only[List.set_cons_succ]
           try simp only[List.set_cons_zero]
           refine wpAnyH_take (i:=1) (v:=?_) rfl (by kernel_rfl) (by kernel_rfl) (by kernel_rfl) (fun _ _ _ h=>h) (Or.inl ⟨by rfl,?_⟩) (by assumption) ?_;rotate_left
           ·(intro w hSw;go_simp;try with_reducible rfl)
           try simp only[Act.put]
           try simp only[List.setIfInBounds_toArray]
           try simp only[List.set_cons_succ]
           try simp only[List.set_cons_zero]
           refine wpAnyH_take (i:=2) (v:=?_) rfl (by kernel_rfl) (by kernel_rfl) (by kernel_rfl) (fun _ _ _ h=>h) (Or.inl ⟨by rfl,?_⟩) (by assumption) ?_;rotate_left
           ·(intro w hSw;go_simp;try with_reducible rfl)
           try simp only[Act.put]
           try simp only[List.setIfInBounds_toArray]
           try simp only[List.set_cons_succ]
           try simp only[List.set_cons_zero]
           refine wpAnyH_take (i:=3) (v:=.map (some L.mb)) rfl (by kernel_rfl) (by kernel_rfl) (by kernel_rfl) (fun _ _ _ h=>h) (Or.inl ⟨by rfl,?_⟩) (by assumption) ?_
           ·(intro w hSw;obtain⟨s0,s1,s2,s3,s4,s5⟩:=hSw;go_simp)
           try simp only[Act.put]
           try simp only[List.setIfInBounds_toArray]
           try simp only[List.set_cons_succ]
           try simp only[List.set_cons_zero]
           refine wpAnyH_take (i:=4) (v:=?_) rfl (by kernel_rfl) (by kernel_rfl) (by kernel_rfl) (fun _ _ _ h=>h) (Or.inl ⟨by rfl,?_⟩) (by assumption) ?_;rotate_left
           ·(intro w hSw;go_simp;try with_reducible rfl)
           try simp only[Act.put]
           try simp only[List.setIfInBounds_toArray]
           try simp only[List.set_cons_succ]
           try simp only[List.set_cons_zero]
           refine wpAnyH_take (i:=5) (v:=?_) rfl (by kernel_rfl) (by kernel_rfl) (by kernel_rfl) (fun _ _ _ h=>h) (Or.inl ⟨by rfl,?_⟩) (by assumption) ?_;rotate_left
           ·(intro w hSw;go_simp;try with_reducible rfl)
           try simp only[Act.put]
           try simp only[List.setIfInBounds_toArray]
           try simp only[List.set_cons_succ]
           try simp only[List.set_cons_zero]
           refine wpAnyH_take (i:=6) (v:=.int .i64 x.val) rfl (by kernel_rfl) (by kernel_rfl) (by kernel_rfl) (fun _ _ _ h=>h) (Or.inl ⟨by rfl,?_⟩) (by assumption) ?_
           ·(intro w hSw;obtain⟨s0,s1,s2,s3,s4,s5⟩:=hSw;go_simp)
           try simp only[Act.put]
           try simp only[List.setIfInBounds_toArray]
           try simp only[List.set_cons_succ]
           try simp only[List.set_cons_zero]
           refine wpAnyH_take (i:=7) (v:=?_) rfl (by kernel_rfl) (by kernel_rfl) (by kernel_rfl) (fun _ _ _ h=>h) (Or.inl ⟨by rfl,?_⟩) (by assumption) ?_;rotate_left
           ·(intro w hSw;go_simp;try with_reducible rfl)
           try simp only[Act.put]
           try simp only[List.setIfInBounds_toArray]
           try simp only[List.set_cons_succ]
           try simp only[List.set_cons_zero]
           refine wpAnyH_take (i:=8) (v:=.agg #[.int .i64 Y.m,.int .i64 Y.d,.int .i64 Y.s]) rfl (by kernel_rfl) (by kernel_rfl) (by kernel_rfl) (fun _ _ _ h=>h) (Or.inl ⟨by rfl,?_⟩) (by assumption) ?_
           ·(intro w hSw;obtain⟨s0,s1,s2,s3,s4,s5⟩:=hSw;go_simp)
           try simp only[Act.put]
           try simp only[List.setIfInBounds_toArray]
           try simp only[List.set_cons_succ]
           try simp only[List.set_cons_zero]
           refine wpAnyH_take (i:=9) (v:=?_) rfl (by kernel_rfl) (by kernel_rfl) (by kernel_rfl) (fun _ _ _ h=>h) (Or.inl ⟨by rfl,?_⟩) (by assumption) ?_;rotate_left
           ·(intro w hSw;go_simp;try with_reducible rfl)
           try simp only[Act.put]
           try simp only[List.setIfInBounds_toArray]
           try simp only[List.set_cons_succ]
           try simp only[List.set_cons_zero]
           refine wpAnyH_take (i:=10) (v:=.slice ya Y.h.length yc) rfl (by kernel_rfl) (by kernel_rfl) (by kernel_rfl) (fun _ _ _ h=>h) (Or.inl ⟨by rfl,?_⟩) (by assumption) ?_
           ·(intro w hSw;obtain⟨s0,s1,s2,s3,s4,s5⟩:=hSw;go_simp)
           try simp only[Act.put]
           try simp only[List.setIfInBounds_toArray]
           try simp only[List.set_cons_succ]
           try simp only[List.set_cons_zero]
           refine wpAnyH_ready (rs:=[11]) (by kernel_rfl) (by simp) ?_;refine AllReadyH.cons rfl (fun K hK=>?_) AllReadyH.nil;go_simp;go_at_call 84;refine KC.out.mono ?_;rintro e w5⟨a5,c5,rfl,ho5,hb5⟩;go_wp2_with fail;have hS5:=keepS hS0 hb5 hlS;refine hK.out _ _ ?_ (fun hHeld=>?_)
           ·exact hS5
           clear hK K
           try simp only[Act.put]
           try simp only[List.setIfInBounds_toArray]
           try simp only[List.set_cons_succ]
           try simp only[List.set_cons_zero]
           refine wpAnyH_ready (rs:=[12]) (by kernel_rfl) (by simp) ?_;refine AllReadyH.cons rfl (fun K hK=>?_) AllReadyH.nil;go_simp;refine hK.out _ _ ?_ (fun hHeld=>?_)
           ·exact hS5
           clear hK K
           try simp only[Act.put]
           try simp only[List.setIfInBounds_toArray]
           try simp only[List.set_cons_succ]
           try simp only[List.set_cons_zero]
           refine wpAnyH_ready (rs:=[13]) (by kernel_rfl) (by simp) ?_;refine AllReadyH.cons rfl (fun K hK=>?_) AllReadyH.nil;have hR5:=hRd.out.below hb5;have hr5:HRow w5 (.slice a5 Y.h.length c5) Y.h:=ownsRow_rebase ho5 (Nat.zero_le _);refine step_put_range rfl _ _ _ rfl (x:=⟨2,x.val,Y.m,Y.d,Y.s,Y.h⟩) (sl:=.slice a5 Y.h.length c5) rfl hR5 rfl rfl hwi (by rw[halfI_at hli,hgi];rfl) hr5 ?_;intro wz hRz hgz hzz;rw[halfI_put hgi hJ.out] at hRz;refine hK.out _ _ ?_ (fun hHeld=>?_)
           ·exact keepG hS5 hgz hmS
           clear hK K
           try simp only[Act.put]
           try simp only[List.setIfInBounds_toArray]
           try simp only[List.set_cons_succ]
           try simp only[List.set_cons_zero]
           refine wpAnyH_done (by kernel_rfl) ?_ _;have HRZ:=Lib.hid hRz;have HFZ:Hid (Fr (fun k=>k=L.mb) w wz):=((HF3.out.drewN 1).off hb5).trans (Fr.grown hgz (fun k e=>by injection e with e;exact e.symm));clear hRz hgz hzz hR5 hr5 ho5 hb5 hS5 hHeld;go_wp2;go_roundw
           case rel=>(first|exact⟨_,cnt1,HRZ.out,HFZ.out⟩|((repeat apply Exists.intro);exact⟨⟨_,cnt1,HRZ.out,HFZ.out⟩,rfl⟩))
           case measure=>rw[HRZ.out.left_eq,HR.out.left_eq];exact hlt
         ·have hd:(x.st==1)=false:=by simpa using hst
          have hR3:Hid (RangeP W2 L.mb W7.heap.size (halfI (fun j=>left j&&!(j==i)) f1 (NP.join Y lost)) q4 (fun j=>left j&&!(j==i)) cnt1):=by
           have h0:=HR2.out;rw[halfI_skip hgi (by rw[NP.join,if_neg (fun e=>hst e.1)])] at h0;exact h0
          clear hst;go_wp2;rw[←hW2];go_roundw
          case rel=>exact⟨_,cnt1,hR3.out,HFy.out⟩
          case measure=>rw[hR3.out.left_eq,HR.out.left_eq];exact hlt
     case rest=>
      as_aux_lemma=>
       obtain⟨hN8,hF8⟩:=hcut;have hM8:=H.out.map hF8 (fun k _ e=>e) hq4 hN8;obtain⟨k0,k1,k2,k3⟩:=hM8.cells;have kf:wc.frozen? ⟨L.cb,1,none⟩=false:=frozen_of_row wc L.cb 1 _ _ hM8.blk;have hF9:Fr (fun k=>k=L.cb) wc (wc.setCell ⟨L.cb,1,none⟩ (.int .i64 ((c.time:Int)+1))):=(Fr.refl (fun k=>k=L.cb) wc).setCell (p:=⟨L.cb,1,none⟩) (Or.inl rfl) _
       have hM9:ClusAt (wc.setCell ⟨L.cb,1,none⟩ (.int .i64 ((c.time:Int)+1))) L ⟨c.plan,c.time+1,c.now,c.asked,c.f2 lost⟩:=by
        have hr:=hM8.rows;obtain⟨p1,p2,p3,p4,p5,p6⟩:=hM8.apart;obtain⟨a1,a2,a3,⟨q',hq',a4⟩,a6⟩:=hM8;exact⟨heap_setCell_same wc L.cb 1 _ _ _ a1,ownsRow_fr a2 hF9 (fun k cur hk e=>hr k cur _ hk (Or.inl rfl) (Or.inl e)),a3.fr hF9 p1 p4,⟨q',hq',a4.fr hF9 p2 (fun k cur hk e=>hr k cur _ hk (Or.inr rfl) (Or.inl e))⟩,a6⟩
       have HM9:=Lib.hid hM9;have HF9:Hid (Fr L.own w (wc.setCell ⟨L.cb,1,none⟩ (.int .i64 ((c.time:Int)+1)))):=(hF8.own (fun k _ e=>Or.inr (Or.inr e))).trans (hF9.mono (fun k e=>Or.inl e));have hbt:(c.time:Int)<200:=by omega
       have hlp:1≤(c.plan.length:Int)∧(c.plan.length:Int)≤32:=by omega
       obtain⟨hlp1,hlp2⟩:=hlp;have hok2:=(HI.out.f2 ht lost).2;have KE:=Lib.hid (fun n:Nat=>cEnded_any ea L ⟨c.plan,c.time+1,c.now,c.asked,c.f2 lost⟩ ((wc.setCell ⟨L.cb,1,none⟩ (.int .i64 ((c.time:Int)+1))).drewN n) (fun W hf=>(HE.out W (HF9.out.trans (((Fr.refl L.own _).drewN n).trans hf))).1.sub (by simp)) (HM9.out.drewN n) HI.out.plan (fun i x hx hst=>((hok2 i x hx).on hst).2.2.2.2.2) (by have:=HI.out.asked;dsimp only;omega))
       have hmt:((c.time:Int)+1).tmod (c.plan.length:Int)=(((c.time+1)%c.plan.length:Nat):Int):=by
        rw[Int.tmod_eq_emod_of_nonneg (by omega)];push_cast;rfl
       have hme:((c.time:Int)+1)%(c.plan.length:Int)=(((c.time+1)%c.plan.length:Nat):Int):=by push_cast;rfl
       clear hN8 hF8 hM8 hF9 hM9 hok2
       by_cases hz:(c.time+1)%c.plan.length=0
       ·have t1:(((c.time:Int)+1).tmod (c.plan.length:Int)==0)=true:=by rw[hmt,hz];rfl
        have t2:(((c.time:Int)+1)%(c.plan.length:Int)==0)=true:=by rw[hme,hz];rfl
        have HS:Hid (c.slot (stayB c.plan.length) lost=⟨c.plan,c.time+1,c.turned,-1,fun i=>(c.f2 lost i).map (NP.endR (stayB c.plan.length) c.turned)⟩):=by unfold Hid CP.slot;rw[if_pos hz]
        clear hmt hme hz;go_wp2;go_quiet (fail);go_wp2_with fail;refine(KE.out _).mono ?_;rintro e w9⟨rfl,hA9,hF9⟩;go_wp2;go_ret2;rw[HS.out];exact⟨rfl,hA9,HF9.out.trans (((Fr.refl L.own _).drewN _).trans hF9)⟩
       ·have t1:(((c.time:Int)+1).tmod (c.plan.length:Int)==0)=false:=by rw[hmt,beq_eq_false_iff_ne];omega
        have t2:(((c.time:Int)+1)%(c.plan.length:Int)==0)=false:=by rw[hme,beq_eq_false_iff_ne];omega
        have HS:Hid (c.slot (stayB c.plan.length) lost=⟨c.plan,c.time+1,c.now,c.asked,c.f2 lost⟩):=by unfold Hid CP.slot;rw[if_neg hz]
        clear hmt hme hz KE;go_wp2;go_quiet (fail);go_wp2;go_ret2;rw[HS.out];exact⟨rfl,HM9.out.drewN _,HF9.out.drewN _⟩
end Go.Proofs.YtppfkokfnoeopaaGreatDoor
