/- A part of a proof. -/
import Derived.OrdersHeld
import Derived.Test.YtppfkokfnoeopaaGreatDoorSFold
import Derived.Test.YtppfkokfnoeopaaGreatDoorSRClus
set_option maxRecDepth 400000
set_option maxHeartbeats 6400000
namespace Go.Proofs.YtppfkokfnoeopaaGreatDoor
open Go.RowKit
section
variable {P:Program} {ops:Array Oper} {Q:Exit→Act→World→Prop} {md:Region.Mode}
def Uw(l:Array Bool):Nat:=l.toList.countP (fun b=>!b)
theorem Ux{l:Array Bool}{i:Nat}(h:l.getD i true=false):Uw (l.setIfInBounds i true)+1=Uw l:=by
 have hi:i<l.size:=by
  rcases Nat.lt_or_ge i l.size with h'|h'
  ·exact h'
  ·rw[Array.getD_eq_getD_getElem?,Array.getElem?_eq_none h'] at h;simp at h
 have hv:l.toList[i]'(by simpa using hi)=false:=by simpa[hi] using h
 unfold Uw;have h0:0<l.toList.countP (fun b=>!b):=List.countP_pos_iff.2 ⟨_,List.getElem_mem (by simpa using hi),by rw[hv];rfl⟩;have h1:=List.countP_set (p:=fun b:Bool=>!b) (l:=l.toList) (i:=i) (a:=true) (by simpa using hi);rw[hv] at h1;rw[Array.toList_setIfInBounds,h1];simp only[Bool.not_false,Bool.not_true,if_true];simp only[Bool.false_eq_true,if_false];omega
def A0(A:Act)(ts:List Nat)(u:Nat→Value):Act:=ts.foldl (fun b t=>b.put (some t) (u t)) A
def upd(u:Nat→Value)(t:Nat)(v:Value):Nat→Value:=fun k=>if k=t then v else u k
theorem Gi(u:Nat→Value)(t:Nat)(v:Value):upd u t v t=v:=if_pos rfl
theorem zHp(u:Nat→Value){t k:Nat}(v:Value)(h:k≠t):upd u t v k=u k:=if_neg h
theorem zIx(A:Act)(t:Nat)(v x:Value):(A.put (some t) v).put (some t) x=A.put (some t) x:=by
 simp[Act.put]
theorem Yj:∀(ts:List Nat) (A:Act) (u:Nat→Value) (t:Nat) (v:Value),t∉ts→(A0 A ts u).put (some t) v=A0 (A.put (some t) v) ts u
 | [],_,_,_,_,_=>rfl
 | x::r,A,u,t,v,h=>by
  rw[List.mem_cons,not_or] at h
  show(A0 (A.put (some x) (u x)) r u).put (some t) v=A0 ((A.put (some t) v).put (some x) (u x)) r u
  rw[Yj r _ u t v h.2,Act.put_comm A (x:=some t) (y:=some x) v (u x) (fun d hd e=>h.1 (by injection hd with hd;injection e with e;omega))]
theorem Sr:∀(ts:List Nat) (A:Act) (u v:Nat→Value),(∀t∈ts,u t=v t)→A0 A ts u=A0 A ts v
 | [],_,_,_,_=>rfl
 | x::r,A,u,v,h=>by
  show A0 (A.put (some x) (u x)) r u=A0 (A.put (some x) (v x)) r v
  rw[h x (by simp)];exact Sr r _ u v (fun t ht=>h t (List.mem_cons_of_mem _ ht))
theorem St:∀(ts:List Nat) (A:Act) (u:Nat→Value) (t:Nat) (v:Value),ts.Nodup→t∈ts→(A0 A ts u).put (some t) v=A0 A ts (upd u t v)
 | [],_,_,_,_,_,h=>by cases h
 | x::r,A,u,t,v,hn,h=>by
  rw[List.nodup_cons] at hn
  show(A0 (A.put (some x) (u x)) r u).put (some t) v=A0 (A.put (some x) (upd u t v x)) r (upd u t v)
  by_cases e:t=x
  ·subst e
   rw[Yj r _ u t v hn.1,zIx,Gi];exact Sr r _ _ _ (fun k hk=>(zHp u v (fun e=>hn.1 (by subst e;exact hk))).symm)
  ·rw[zHp u v (Ne.symm e),St r _ u t v hn.2 ((List.mem_cons.1 h).resolve_left e)]
theorem Vz(A:Act)(t k:Nat)(v:Value):(A.put (some t) v).eval (.tmp k)=if k=t∧t<A.tmps.size then v else A.eval (.tmp k):=by
 simp only[Act.put,Act.eval]
 by_cases e:k=t
 ·subst e
  by_cases h:k<A.tmps.size
  ·simp[h]
  ·simp[h]
 ·simp[e,Ne.symm e,Array.getElem?_setIfInBounds_ne]
theorem Ph:∀(ts:List Nat) (A:Act) (u:Nat→Value) (k:Nat),ts.Nodup→(A0 A ts u).eval (.tmp k)=if k∈ts∧k<A.tmps.size then u k else A.eval (.tmp k)
 | [],_,_,_,_=>by simp[A0]
 | x::r,A,u,k,hn=>by
  rw[List.nodup_cons] at hn
  show(A0 (A.put (some x) (u x)) r u).eval (.tmp k)=_
  rw[Ph r _ u k hn.2,Vz];have hs:(A.put (some x) (u x)).tmps.size=A.tmps.size:=by simp[Act.put]
  rw[hs]
  by_cases e:k=x
  ·subst e;simp[hn.1]
  ·simp[e]
theorem Gw{ts:List Nat}{A:Act}{u:Nat→Value}{k:Nat}(hn:ts.Nodup)(hk:k∈ts)(hs:k<A.tmps.size):(A0 A ts u).eval (.tmp k)=u k:=by
 rw[Ph ts A u k hn,if_pos ⟨hk,hs⟩]
theorem Ss{ts:List Nat}{A:Act}{u:Nat→Value}{k:Nat}(hn:ts.Nodup)(hk:k∉ts):(A0 A ts u).eval (.tmp k)=A.eval (.tmp k):=by
 rw[Ph ts A u k hn,if_neg (fun h=>hk h.1)]
theorem U5:∀(ts:List Nat) (A:Act),(∀t∈ts,t<A.tmps.size)→A0 A ts (fun k=>A.eval (.tmp k))=A
 | [],_,_=>rfl
 | x::r,A,h=>by
  show A0 (A.put (some x) (A.eval (.tmp x))) r _=A
  have e:A.put (some x) (A.eval (.tmp x))=A:=by
   have hx:=h x (by simp)
   cases A with
   | mk t d=>
    simp only[Act.put,Act.eval]
    congr 1
    refine Array.ext (by simp) (fun i h1 h2=>?_);rw[Array.getElem_setIfInBounds]
    split
    ·rename_i e;subst e;simp
    ·rfl
  rw[e];exact U5 r A (fun t ht=>h t (List.mem_cons_of_mem _ ht))
variable {S:World→Prop}
theorem Ti{I:Array Bool→(Nat→Value)→World→Prop}{A:Act}{ts rest:List Nat}
 (hS:∀l u w,I l u w→S w)
 (h0:∀l u w,(∀j,j∉rest→l.getD j true=true)→Region.ready md ops l=[]→I l u w→Q .normal (A0 A ts u) w)
 (h1:∀i∈rest,∀l u w o,ops[i]?=some o→(∀j,j∉rest→l.getD j true=true)→l.getD i true=false→(∀e∈o.after,Region.binds md e=true→l.getD e.on false=true)→I l u w→
  if Region.wanted o (yielded ops (A0 A ts u).tmps)=true then Oper.wp P o (A0 A ts u) w (fun a' w'=>∃u',a'=A0 A ts u'∧I (l.setIfInBounds i true) u' w') Q else ∃u',(A0 A ts u).put o.dst undef=A0 A ts u'∧I (l.setIfInBounds i true) u' w) :
 ∀(fuel:Nat) (l:Array Bool) (u:Nat→Value) (w:World),Uw l≤fuel→(∀j,j∉rest→l.getD j true=true)→I l u w→wpAnyH P md ops Q S fuel l (A0 A ts u) w
 | 0,l,u,w,hl,hj,h=>by
  have hr:Region.ready md ops l=[]:=by
   refine List.eq_nil_iff_forall_not_mem.2 fun i hi=>?_
   have:=Ux (mem_ready.1 hi).1;omega
  exact⟨hr,h0 l u w hj hr h⟩
 | fuel+1,l,u,w,hl,hj,h=>by
  refine⟨fun hr=>h0 l u w hj hr h,fun i hi=>?_⟩;obtain⟨hun,o,ho,hall⟩:=mem_ready.1 hi;have hir:i∈rest:=Classical.byContradiction fun hx=>by rw[hj i hx] at hun;cases hun
  have hstep:=h1 i hir l u w o ho hj hun hall h;have hlf:=Ux hun
  have hj':∀j,j∉rest→(l.setIfInBounds i true).getD j true=true:=fun j hjr=>by
   rw[getD_set_ne true (fun e=>hjr (by rw[←e];exact hir))];exact hj j hjr
  have fin:∀a' w',(∃u',a'=A0 A ts u'∧I (l.setIfInBounds i true) u' w')→S w'∧wpAnyH P md ops Q S fuel (l.setIfInBounds i true) a' w':=by
   rintro a' w'⟨u',rfl,hI⟩;exact⟨hS _ _ _ hI,Ti hS h0 h1 fuel _ u' w' (by omega) hj' hI⟩
  refine wpOp_step ho (fun K' hK=>?_)
  split
  ·rename_i hw
   rw[if_pos hw] at hstep;exact Oper.wp_mono (fun a' w' hx=>hK a' w' (fin a' w' hx)) hstep
  ·rename_i hw
   rw[if_neg hw] at hstep;exact hK _ _ (fin _ _ hstep)
theorem zDy{l:Array Bool}(h:Region.ready md ops l=[]){i:Nat}{o:Oper}(ho:ops[i]?=some o)(hd:∀e∈o.after,Region.binds md e=true→l.getD e.on false=true):l.getD i true=true:=by
 cases hl:l.getD i true
 ·have:i∈Region.ready md ops l:=mem_ready.2 ⟨hl,o,ho,hd⟩
  rw[h] at this;cases this
 ·rfl
theorem Rt{l:Array Bool}{i:Nat}(h:i<l.size):l.getD i true=l.getD i false:=by simp[h]
theorem zF3{l:Array Bool}{i:Nat}(h:l.getD i true=false):(l.setIfInBounds i true).getD i false=true:=by
 have hi:i<l.size:=by
  rcases Nat.lt_or_ge i l.size with h'|h'
  ·exact h'
  ·rw[Array.getD_eq_getD_getElem?,Array.getElem?_eq_none h'] at h;simp at h
 simp[hi]
def upB(up:Nat→Bool)(i:Nat):Nat→Bool:=fun j=>if j=i then true else up j
theorem zI6{l:Array Bool}{i:Nat}(h:l.getD i true=false):(fun j=>(l.setIfInBounds i true).getD j false)=upB (fun j=>l.getD j false) i:=by
 funext j
 unfold upB
 by_cases e:j=i
 ·subst e;rw[if_pos rfl];exact zF3 h
 ·rw[if_neg e];exact getD_set_ne false (Ne.symm e)
def zFv(md:Region.Mode)(ops:Array Oper):Bool:=(List.range ops.size).all fun i=>match ops[i]? with|some o=>o.after.all fun e=>!Region.binds md e||decide (e.on<i)|none=>true
theorem Zu(h:zFv md ops=true){i:Nat}{o:Oper}(ho:ops[i]?=some o):∀e∈o.after,Region.binds md e=true→e.on<i:=by
 have hi:i<ops.size:=(Array.getElem?_eq_some_iff.1 ho).1;have h1:=List.all_eq_true.1 h i (List.mem_range.2 hi);rw[ho] at h1;intro e he hb;have h2:=(Array.all_eq_true_iff_forall_mem.1 h1) e he;rw[hb] at h2;simpa using h2
theorem Zg{l:Array Bool}(hs:l.size=ops.size)(he:zFv md ops=true)(hr:Region.ready md ops l=[]):∀n i,i<n→i<ops.size→l.getD i false=true
 | 0,i,h,_=>absurd h (Nat.not_lt_zero _)
 | n+1,i,h,hi=>by
  by_cases e:i<n
  ·exact Zg hs he hr n i e hi
  ·have ho:ops[i]?=some ops[i]:=Array.getElem?_eq_getElem hi
   rw[←Rt (by rw[hs];exact hi)];refine zDy hr ho (fun x hx hb=>?_);have hlt:=Zu he ho x hx hb;exact Zg hs he hr n x.on (by omega) (by omega)
def De(P:Program)(md:Region.Mode)(ops:Array Oper)(Q:Exit→Act→World→Prop)(I:(Nat→Bool)→(Nat→Value)→World→Prop)(ts:List Nat)(A:Act)(rest:List Nat):Prop:=
 ∀i∈rest,∀up u w o,ops[i]?=some o→up i=false→(∀e∈o.after,Region.binds md e=true→up e.on=true)→I up u w→
  if Region.wanted o (yielded ops (A0 A ts u).tmps)=true then Oper.wp P o (A0 A ts u) w (fun a' w'=>∃u',a'=A0 A ts u'∧I (upB up i) u' w') Q else ∃u',(A0 A ts u).put o.dst undef=A0 A ts u'∧I (upB up i) u' w
theorem De.nil{I:(Nat→Bool)→(Nat→Value)→World→Prop}{ts:List Nat}{A:Act}:De P md ops Q I ts A []:=fun _ h=>by cases h
theorem De.cons{I:(Nat→Bool)→(Nat→Value)→World→Prop}{ts:List Nat}{A:Act}{rest:List Nat}{i:Nat}{o:Oper}(ho:ops[i]?=some o)
 (h:∀up u w,up i=false→(∀e∈o.after,Region.binds md e=true→up e.on=true)→I up u w→
  if Region.wanted o (yielded ops (A0 A ts u).tmps)=true then Oper.wp P o (A0 A ts u) w (fun a' w'=>∃u',a'=A0 A ts u'∧I (upB up i) u' w') Q else ∃u',(A0 A ts u).put o.dst undef=A0 A ts u'∧I (upB up i) u' w)
 (hs:De P md ops Q I ts A rest):De P md ops Q I ts A (i::rest):=fun j hj up u w o' ho' hun hd hI=>by
 rcases List.mem_cons.1 hj with rfl|hj
 ·rw[ho] at ho'
  obtain rfl:=Option.some.inj ho';exact h up u w hun hd hI
 ·exact hs j hj up u w o' ho' hun hd hI
theorem zEi{I:(Nat→Bool)→(Nat→Value)→World→Prop}{A:Act}(F:Act→Prop)(ts rest:List Nat){l:Array Bool}{w:World}{fuel:Nat}
 (he:zFv md ops=true) (hrs:rest.all (fun i=>decide (i<ops.size))=true) (hA:ts.all (fun t=>decide (t<A.tmps.size))=true) (hF:F A) (hl:l.size=ops.size) (hlf:Uw l≤fuel)
 (hj:∀j,j∉rest→l.getD j true=true) (hI:I (fun j=>l.getD j false) (fun k=>A.eval (.tmp k)) w)
 (hS:∀up u w,I up u w→S w)
 (h1:∀A,F A→De P md ops Q I ts A rest)
 (h0:∀up u w,(∀i∈rest,up i=true)→I up u w→Q .normal (A0 A ts u) w):wpAnyH P md ops Q S fuel l A w:=by
 have hself:A0 A ts (fun k=>A.eval (.tmp k))=A:=U5 ts A (fun t ht=>of_decide_eq_true (List.all_eq_true.1 hA t ht))
 have main:=Ti (P:=P) (Q:=Q) (md:=md) (ops:=ops) (S:=S) (I:=fun l u w=>l.size=ops.size∧I (fun j=>l.getD j false) u w) (A:=A) (ts:=ts) (rest:=rest)
  (fun l u w h=>hS _ _ _ h.2)
  (fun l u w _ hr h=>h0 _ u w (fun i hi=>Zg h.1 he hr (i+1) i (by omega) (of_decide_eq_true (List.all_eq_true.1 hrs i hi))) h.2)
  (fun i hi l u w o ho _ hun hall h=>by
   have hs:=h1 A hF i hi (fun j=>l.getD j false) u w o ho (by
    have:i<l.size:=by rw[h.1];exact(Array.getElem?_eq_some_iff.1 ho).1
    rw[←Rt this];exact hun) hall h.2
   have hup:=zI6 hun
   have fin:∀(a':Act) (w':World),(∃u',a'=A0 A ts u'∧I (upB (fun j=>l.getD j false) i) u' w')→∃u',a'=A0 A ts u'∧(l.setIfInBounds i true).size=ops.size∧I (fun j=>(l.setIfInBounds i true).getD j false) u' w':=by
    rintro a' w'⟨u',e,hx⟩;exact⟨u',e,by simpa using h.1,by rw[hup];exact hx⟩
   split at hs
   ·rename_i hw
    rw[if_pos hw];exact Oper.wp_mono (fun a' w' hx=>fin a' w' hx) hs
   ·rename_i hw
    rw[if_neg hw]
    exact fin _ _ hs)
  fuel l (fun k=>A.eval (.tmp k)) w hlf hj ⟨hl,hI⟩
 rw[hself] at main;exact main
theorem Ip{I:(Nat→Bool)→(Nat→Value)→World→Prop}{A:Act}{ts:List Nat}{o:Oper}{up:Nat→Bool}{u:Nat→Value}{w w':World}{i d:Nat}{v:Value}(hg:o.guard=none)(hd:o.dst=some d)(hdt:d∈ts)(hn:ts.Nodup)(hrun:(execOp (A0 A ts u).eval o).run P w=.ok (.value v) w')(hI:I (upB up i) (upd u d v) w') :
 if Region.wanted o (yielded ops (A0 A ts u).tmps)=true then Oper.wp P o (A0 A ts u) w (fun a' w'=>∃u',a'=A0 A ts u'∧I (upB up i) u' w') Q else ∃u',(A0 A ts u).put o.dst undef=A0 A ts u'∧I (upB up i) u' w:=by
 rw[if_pos (by unfold Region.wanted;rw[hg])];unfold Oper.wp;rw[hrun,Oper.upon_value,hd];exact⟨_,St ts A u d v hn hdt,hI⟩
theorem Ww{I:(Nat→Bool)→(Nat→Value)→World→Prop}{A:Act}{ts:List Nat}{o:Oper}{up:Nat→Bool}{u:Nat→Value}{w w':World}{i:Nat}(hg:o.guard=none)(hd:o.dst=none)(hrun:(execOp (A0 A ts u).eval o).run P w=.ok .skip w')(hI:I (upB up i) u w') :
 if Region.wanted o (yielded ops (A0 A ts u).tmps)=true then Oper.wp P o (A0 A ts u) w (fun a' w'=>∃u',a'=A0 A ts u'∧I (upB up i) u' w') Q else ∃u',(A0 A ts u).put o.dst undef=A0 A ts u'∧I (upB up i) u' w:=by
 rw[if_pos (by unfold Region.wanted;rw[hg])];unfold Oper.wp;rw[hrun,Oper.upon_skip,hd];exact⟨u,rfl,hI⟩
theorem zI7{I:(Nat→Bool)→(Nat→Value)→World→Prop}{A:Act}{ts:List Nat}{o:Oper}{up:Nat→Bool}{u:Nat→Value}{w:World}{i d:Nat}{f:FuncId}{args:Array Value}(hg:o.guard=none)(hd:o.dst=some d)(hdt:d∈ts)(hn:ts.Nodup)(hrun:(execOp (A0 A ts u).eval o).run P w=.ok (.enter f args) w)(hc:Calls P f args w fun e w'=>∃v,e=.returned v∧I (upB up i) (upd u d v) w') :
 if Region.wanted o (yielded ops (A0 A ts u).tmps)=true then Oper.wp P o (A0 A ts u) w (fun a' w'=>∃u',a'=A0 A ts u'∧I (upB up i) u' w') Q else ∃u',(A0 A ts u).put o.dst undef=A0 A ts u'∧I (upB up i) u' w:=by
 rw[if_pos (by unfold Region.wanted;rw[hg])];unfold Oper.wp;rw[hrun,Oper.upon_enter,hd];refine hc.mono ?_;rintro e w'⟨v,rfl,hI⟩;exact⟨_,St ts A u d v hn hdt,hI⟩
theorem De.step{I:(Nat→Bool)→(Nat→Value)→World→Prop}{ts:List Nat}{A:Act}{rest:List Nat}{i:Nat}(hi:decide (i<ops.size)=true)
 (h:∀up u w,up i=false→(∀e∈(ops[i]'(of_decide_eq_true hi)).after,Region.binds md e=true→up e.on=true)→I up u w→
  if Region.wanted (ops[i]'(of_decide_eq_true hi)) (yielded ops (A0 A ts u).tmps)=true then Oper.wp P (ops[i]'(of_decide_eq_true hi)) (A0 A ts u) w (fun a' w'=>∃u',a'=A0 A ts u'∧I (upB up i) u' w') Q else ∃u',(A0 A ts u).put (ops[i]'(of_decide_eq_true hi)).dst undef=A0 A ts u'∧I (upB up i) u' w)
 (hs:De P md ops Q I ts A rest):De P md ops Q I ts A (i::rest):=
 De.cons (Array.getElem?_eq_getElem (of_decide_eq_true hi)) h hs
end
end Go.Proofs.YtppfkokfnoeopaaGreatDoor
namespace Go.Proofs.YtppfkokfnoeopaaGreatDoor
open Go.RowKit Go.Proofs.Tryz
def Bx(W0 w:World)(v:Value)(t:TypeId)(n:Nat)(done:Bool)(val:Array Value):Prop:=∃b cs,v=.pointer (some ⟨b,0,none⟩)∧W0.heap.size≤b∧Af w b t cs∧cs.size=n∧(done=true→cs=val)
theorem Bx.below{W0 w w':World}{v:Value}{t:TypeId}{n:Nat}{d:Bool}{val:Array Value}(h:Bx W0 w v t n d val)(hb:Below w.heap.size w w'):Bx W0 w' v t n d val:=by
 obtain⟨b,cs,h1,h2,h3,h4⟩:=h;exact⟨b,cs,h1,h2,h3.kept hb,h4⟩
theorem Bx.fr{W0 w w':World}{v:Value}{t t':TypeId}{n b':Nat}{d:Bool}{val cs':Array Value}(h:Bx W0 w v t n d val)(hf:Fr (fun j=>j=b') w w')(hb:Af w b' t' cs')(ht:t≠t'):Bx W0 w' v t n d val:=by
 obtain⟨b,cs,h1,h2,h3,h4⟩:=h;refine⟨b,cs,h1,h2,(hf.block b h3.lt (fun e=>?_)).trans h3,h4⟩;subst e;have hb':some (Obj.cells cs t (0,0))=some (Obj.cells cs' t' (0,0)):=(show w.heap[b]?=_ from h3).symm.trans (show w.heap[b]?=_ from hb);injection hb' with hb';injection hb' with _ e;exact ht e
theorem Bx.new{W0 w:World}(t:TypeId)(cs:Array Value){n:Nat}{d:Bool}{val:Array Value}(hb:W0.heap.size≤w.heap.size)(hn:cs.size=n)(hd:d=false):Bx W0 (w.alloc (.cells cs t)) (.pointer (some ⟨w.heap.size,0,none⟩)) t n d val:=
 ⟨_,cs,rfl,hb,Af.new w t cs,hn,fun h=>by rw[hd] at h;cases h⟩
theorem Bx.done{W0 w:World}{v:Value}{t:TypeId}{n:Nat}{d d':Bool}{val:Array Value}(h:Bx W0 w v t n d val)(hd:d'=d):Bx W0 w v t n d' val:=by subst hd;exact h
structure J19(W0:World)(T xv xe xf:Value)(Va Ea Fa:Array Value)(up:Nat→Bool)(u:Nat→Value)(w:World):Prop where
 low:Below W0.heap.size W0 w
 call:up 13=true→u 133=T
 mv:up 14=true→u 119=T
 x0:up 15=true→u 134=xv
 x1:up 16=true→u 135=xe
 x2:up 17=true→u 136=xf
 a0:up 18=true→Bx W0 w (u 14) 96 3 (up 21) Va
 a1:up 19=true→Bx W0 w (u 15) 146 4 (up 22) Ea
 a2:up 20=true→Bx W0 w (u 16) 55 2 (up 23) Fa
 o0:up 21=true→up 18=true
 o1:up 22=true→up 19=true
 o2:up 23=true→up 20=true
section
variable {W0:World} {T xv xe xf:Value} {Va Ea Fa:Array Value} {up:Nat→Bool} {u:Nat→Value} {w w':World}
theorem Tg{up:Nat→Bool}{i:Nat}:upB up i i=true:=if_pos rfl
theorem J19.s13(h:J19 W0 T xv xe xf Va Ea Fa up u w)(hb:Below w.heap.size w w'):J19 W0 T xv xe xf Va Ea Fa (upB up 13) (upd u 133 T) w':=
 ⟨h.low.trans (hb.mono h.low.size),fun _=>Gi _ _ _,fun q=>h.mv q,fun q=>h.x0 q,fun q=>h.x1 q,fun q=>h.x2 q,fun q=>(h.a0 q).below hb,fun q=>(h.a1 q).below hb,fun q=>(h.a2 q).below hb,h.o0,h.o1,h.o2⟩
theorem J19.s14(h:J19 W0 T xv xe xf Va Ea Fa up u w)(h13:up 13=true):J19 W0 T xv xe xf Va Ea Fa (upB up 14) (upd u 119 (u 133)) w:=
 ⟨h.low,h.call,fun _=>(Gi _ _ _).trans (h.call h13),h.x0,h.x1,h.x2,h.a0,h.a1,h.a2,h.o0,h.o1,h.o2⟩
theorem J19.s15(h:J19 W0 T xv xe xf Va Ea Fa up u w):J19 W0 T xv xe xf Va Ea Fa (upB up 15) (upd u 134 xv) w:=
 ⟨h.low,h.call,h.mv,fun _=>Gi _ _ _,h.x1,h.x2,h.a0,h.a1,h.a2,h.o0,h.o1,h.o2⟩
theorem J19.s16(h:J19 W0 T xv xe xf Va Ea Fa up u w):J19 W0 T xv xe xf Va Ea Fa (upB up 16) (upd u 135 xe) w:=
 ⟨h.low,h.call,h.mv,h.x0,fun _=>Gi _ _ _,h.x2,h.a0,h.a1,h.a2,h.o0,h.o1,h.o2⟩
theorem J19.s17(h:J19 W0 T xv xe xf Va Ea Fa up u w):J19 W0 T xv xe xf Va Ea Fa (upB up 17) (upd u 136 xf) w:=
 ⟨h.low,h.call,h.mv,h.x0,h.x1,fun _=>Gi _ _ _,h.a0,h.a1,h.a2,h.o0,h.o1,h.o2⟩
theorem zAf{p q:Bool}(h:q=true→p=true)(hp:p=false):q=false:=by
 cases q
 ·rfl
 ·rw[h rfl] at hp;cases hp
theorem J19.s18(h:J19 W0 T xv xe xf Va Ea Fa up u w)(hun:up 18=false)(cs:Array Value)(hn:cs.size=3):J19 W0 T xv xe xf Va Ea Fa (upB up 18) (upd u 14 (.pointer (some ⟨w.heap.size,0,none⟩))) (w.alloc (.cells cs 96)):=by
 have hb:Below w.heap.size w (w.alloc (.cells cs 96)):=zb.alloc zl _;exact⟨h.low.trans (hb.mono h.low.size),h.call,h.mv,h.x0,h.x1,h.x2,fun _=>by rw[Gi];exact Bx.new _ cs h.low.size hn (zAf h.o0 hun),fun q=>(h.a1 q).below hb,fun q=>(h.a2 q).below hb,fun _=>Tg,h.o1,h.o2⟩
theorem J19.s19(h:J19 W0 T xv xe xf Va Ea Fa up u w)(hun:up 19=false)(cs:Array Value)(hn:cs.size=4):J19 W0 T xv xe xf Va Ea Fa (upB up 19) (upd u 15 (.pointer (some ⟨w.heap.size,0,none⟩))) (w.alloc (.cells cs 146)):=by
 have hb:Below w.heap.size w (w.alloc (.cells cs 146)):=zb.alloc zl _;exact⟨h.low.trans (hb.mono h.low.size),h.call,h.mv,h.x0,h.x1,h.x2,fun q=>(h.a0 q).below hb,fun _=>by rw[Gi];exact Bx.new _ cs h.low.size hn (zAf h.o1 hun),fun q=>(h.a2 q).below hb,h.o0,fun _=>Tg,h.o2⟩
theorem J19.s20(h:J19 W0 T xv xe xf Va Ea Fa up u w)(hun:up 20=false)(cs:Array Value)(hn:cs.size=2):J19 W0 T xv xe xf Va Ea Fa (upB up 20) (upd u 16 (.pointer (some ⟨w.heap.size,0,none⟩))) (w.alloc (.cells cs 55)):=by
 have hb:Below w.heap.size w (w.alloc (.cells cs 55)):=zb.alloc zl _;exact⟨h.low.trans (hb.mono h.low.size),h.call,h.mv,h.x0,h.x1,h.x2,fun q=>(h.a0 q).below hb,fun q=>(h.a1 q).below hb,fun _=>by rw[Gi];exact Bx.new _ cs h.low.size hn (zAf h.o2 hun),h.o0,h.o1,fun _=>Tg⟩
theorem J19.s21{b:Nat}(h:J19 W0 T xv xe xf Va Ea Fa up u w)(h18:up 18=true)(hu:u 14=.pointer (some ⟨b,0,none⟩))(hf:Fr (fun j=>j=b) w w')(hw:Af w' b 96 Va)(hn:Va.size=3):J19 W0 T xv xe xf Va Ea Fa (upB up 21) u w':=by
 obtain⟨b',cs,e,hb,hB,_,_⟩:=h.a0 h18;rw[hu] at e;obtain rfl:b=b':=by injection e with e;injection e with e;injection e
 exact⟨h.low.trans (hf.below (B:=W0.heap.size) h.low.size (fun j e=>by omega)),h.call,h.mv,h.x0,h.x1,h.x2,fun _=>⟨b,Va,hu,hb,hw,hn,fun _=>rfl⟩,fun q=>(h.a1 q).fr hf hB (by decide),fun q=>(h.a2 q).fr hf hB (by decide),fun _=>h18,h.o1,h.o2⟩
theorem J19.s22{b:Nat}(h:J19 W0 T xv xe xf Va Ea Fa up u w)(h19:up 19=true)(hu:u 15=.pointer (some ⟨b,0,none⟩))(hf:Fr (fun j=>j=b) w w')(hw:Af w' b 146 Ea)(hn:Ea.size=4):J19 W0 T xv xe xf Va Ea Fa (upB up 22) u w':=by
 obtain⟨b',cs,e,hb,hB,_,_⟩:=h.a1 h19;rw[hu] at e;obtain rfl:b=b':=by injection e with e;injection e with e;injection e
 exact⟨h.low.trans (hf.below (B:=W0.heap.size) h.low.size (fun j e=>by omega)),h.call,h.mv,h.x0,h.x1,h.x2,fun q=>(h.a0 q).fr hf hB (by decide),fun _=>⟨b,Ea,hu,hb,hw,hn,fun _=>rfl⟩,fun q=>(h.a2 q).fr hf hB (by decide),h.o0,fun _=>h19,h.o2⟩
theorem J19.s23{b:Nat}(h:J19 W0 T xv xe xf Va Ea Fa up u w)(h20:up 20=true)(hu:u 16=.pointer (some ⟨b,0,none⟩))(hf:Fr (fun j=>j=b) w w')(hw:Af w' b 55 Fa)(hn:Fa.size=2):J19 W0 T xv xe xf Va Ea Fa (upB up 23) u w':=by
 obtain⟨b',cs,e,hb,hB,_,_⟩:=h.a2 h20;rw[hu] at e;obtain rfl:b=b':=by injection e with e;injection e with e;injection e
 exact⟨h.low.trans (hf.below (B:=W0.heap.size) h.low.size (fun j e=>by omega)),h.call,h.mv,h.x0,h.x1,h.x2,fun q=>(h.a0 q).fr hf hB (by decide),fun q=>(h.a1 q).fr hf hB (by decide),fun _=>⟨b,Fa,hu,hb,hw,hn,fun _=>rfl⟩,h.o0,h.o1,fun _=>h20⟩
theorem J19.fin0(h:J19 W0 T xv xe xf Va Ea Fa up u w)(h18:up 18=true)(h21:up 21=true):∃b:Nat,u 14=.pointer (some ⟨b,0,none⟩)∧W0.heap.size≤b∧Af w b 96 Va:=by
 obtain⟨b,cs,h1,h2,h3,_,h5⟩:=h.a0 h18;rw[h5 h21] at h3;exact⟨b,h1,h2,h3⟩
theorem J19.fin1(h:J19 W0 T xv xe xf Va Ea Fa up u w)(h19:up 19=true)(h22:up 22=true):∃b:Nat,u 15=.pointer (some ⟨b,0,none⟩)∧W0.heap.size≤b∧Af w b 146 Ea:=by
 obtain⟨b,cs,h1,h2,h3,_,h5⟩:=h.a1 h19;rw[h5 h22] at h3;exact⟨b,h1,h2,h3⟩
end
def zJt : Oper := { dst := some 120, op := Op.move (Operand.tmp 0), type := 42, pos := "yards.go:148", after := #[], guard := none }
def zJu : Oper := { dst := some 121, op := Op.nilCheck (Operand.tmp 120), type := 0, pos := "yards.go:148", after := #[{ on := 0, ground := Ground.data }], guard := none }
def zJv : Oper := { dst := some 122, op := Op.fieldAddr 94 (Operand.tmp 121) 0, type := 0, pos := "yards.go:148", after := #[{ on := 1, ground := Ground.data }], guard := none }
def zJw : Oper := { dst := some 123, op := Op.load 72 (Operand.tmp 122), type := 72, pos := "yards.go:148", after := #[{ on := 2, ground := Ground.data }], guard := none }
def zJx : Oper := { dst := some 124, op := Op.move (Operand.tmp 0), type := 42, pos := "yards.go:148", after := #[], guard := none }
def zJy : Oper := { dst := some 125, op := Op.nilCheck (Operand.tmp 124), type := 0, pos := "yards.go:148", after := #[{ on := 4, ground := Ground.data }], guard := none }
def zJz : Oper := { dst := some 126, op := Op.fieldAddr 94 (Operand.tmp 125) 4, type := 0, pos := "yards.go:148", after := #[{ on := 5, ground := Ground.data }], guard := none }
def zJ0 : Oper := { dst := some 127, op := Op.load 92 (Operand.tmp 126), type := 92, pos := "yards.go:148", after := #[{ on := 6, ground := Ground.data }], guard := none }
def zJ1 : Oper := { dst := some 128, op := Op.move (Operand.tmp 11), type := 3, pos := "yards.go:148", after := #[], guard := none }
def zJ2 : Oper := { dst := some 129, op := Op.indexAddr 92 (Operand.tmp 127) (Operand.tmp 128), type := 0, pos := "yards.go:148", after := #[{ on := 7, ground := Ground.data }, { on := 8, ground := Ground.data }], guard := none }
def zIt : Oper := { dst := some 130, op := Op.fieldAddr 99 (Operand.tmp 129) 3, type := 0, pos := "yards.go:148", after := #[{ on := 9, ground := Ground.data }], guard := none }
def zIu : Oper := { dst := some 131, op := Op.load 96 (Operand.tmp 130), type := 96, pos := "yards.go:148", after := #[{ on := 10, ground := Ground.data }], guard := none }
def zIv : Oper := { dst := some 132, op := Op.move (Operand.tmp 12), type := 9, pos := "yards.go:148", after := #[], guard := none }
def Ks : Oper := { dst := some 133, op := Op.call { callee := Callee.value (Operand.func 146), args := #[Operand.tmp 123, Operand.tmp 131, Operand.tmp 132], argTypes := #[72, 96, 9] }, type := 214, pos := "yards.go:148", after := #[{ on := 3, ground := Ground.data }, { on := 11, ground := Ground.data }, { on := 12, ground := Ground.data }], guard := none }
def Jb : Oper := { dst := some 119, op := Op.move (Operand.tmp 133), type := 214, pos := "yards.go:148", after := #[{ on := 13, ground := Ground.data }], guard := none }
def Jc : Oper := { dst := some 134, op := Op.extract (Operand.tmp 119) 0, type := 96, pos := "yards.go:148", after := #[{ on := 14, ground := Ground.data }], guard := none }
def Jd : Oper := { dst := some 135, op := Op.extract (Operand.tmp 119) 1, type := 146, pos := "yards.go:148", after := #[{ on := 14, ground := Ground.data }, { on := 21, ground := Ground.gcOnly Departure.lateStores }], guard := none }
def Je : Oper := { dst := some 136, op := Op.extract (Operand.tmp 119) 2, type := 55, pos := "yards.go:148", after := #[{ on := 14, ground := Ground.data }, { on := 22, ground := Ground.gcOnly Departure.lateStores }], guard := none }
def Kt : Oper := { dst := some 14, op := Op.alloc 96, type := 0, pos := "yards.go:148", after := #[], guard := none }
def Ku : Oper := { dst := some 15, op := Op.alloc 146, type := 0, pos := "yards.go:148", after := #[], guard := none }
def Kv : Oper := { dst := some 16, op := Op.alloc 55, type := 0, pos := "yards.go:148", after := #[], guard := none }
def Hj : Oper := { dst := none, op := Op.store 96 (Operand.tmp 14) (Operand.tmp 134), type := 0, pos := "yards.go:148", after := #[{ on := 18, ground := Ground.data }, { on := 15, ground := Ground.data }, { on := 13, ground := Ground.chain }, { on := 0, ground := Ground.phase }, { on := 1, ground := Ground.phase }, { on := 2, ground := Ground.phase }, { on := 3, ground := Ground.phase }, { on := 4, ground := Ground.phase }, { on := 5, ground := Ground.phase }, { on := 6, ground := Ground.phase }, { on := 7, ground := Ground.phase }, { on := 8, ground := Ground.phase }, { on := 9, ground := Ground.phase }, { on := 10, ground := Ground.phase }, { on := 11, ground := Ground.phase }, { on := 12, ground := Ground.phase }, { on := 13, ground := Ground.phase }, { on := 14, ground := Ground.phase }, { on := 15, ground := Ground.phase }, { on := 16, ground := Ground.textOnly Departure.lateStores }, { on := 17, ground := Ground.textOnly Departure.lateStores }, { on := 18, ground := Ground.phase }, { on := 19, ground := Ground.phase }, { on := 20, ground := Ground.phase }], guard := none }
def Hk : Oper := { dst := none, op := Op.store 146 (Operand.tmp 15) (Operand.tmp 135), type := 0, pos := "yards.go:148", after := #[{ on := 19, ground := Ground.data }, { on := 16, ground := Ground.data }, { on := 21, ground := Ground.chain }, { on := 0, ground := Ground.phase }, { on := 1, ground := Ground.phase }, { on := 2, ground := Ground.phase }, { on := 3, ground := Ground.phase }, { on := 4, ground := Ground.phase }, { on := 5, ground := Ground.phase }, { on := 6, ground := Ground.phase }, { on := 7, ground := Ground.phase }, { on := 8, ground := Ground.phase }, { on := 9, ground := Ground.phase }, { on := 10, ground := Ground.phase }, { on := 11, ground := Ground.phase }, { on := 12, ground := Ground.phase }, { on := 13, ground := Ground.phase }, { on := 14, ground := Ground.phase }, { on := 15, ground := Ground.phase }, { on := 16, ground := Ground.phase }, { on := 17, ground := Ground.textOnly Departure.lateStores }, { on := 18, ground := Ground.phase }, { on := 19, ground := Ground.phase }, { on := 20, ground := Ground.phase }, { on := 21, ground := Ground.phase }], guard := none }
def Hl : Oper := { dst := none, op := Op.store 55 (Operand.tmp 16) (Operand.tmp 136), type := 0, pos := "yards.go:148", after := #[{ on := 20, ground := Ground.data }, { on := 17, ground := Ground.data }, { on := 22, ground := Ground.chain }, { on := 0, ground := Ground.phase }, { on := 1, ground := Ground.phase }, { on := 2, ground := Ground.phase }, { on := 3, ground := Ground.phase }, { on := 4, ground := Ground.phase }, { on := 5, ground := Ground.phase }, { on := 6, ground := Ground.phase }, { on := 7, ground := Ground.phase }, { on := 8, ground := Ground.phase }, { on := 9, ground := Ground.phase }, { on := 10, ground := Ground.phase }, { on := 11, ground := Ground.phase }, { on := 12, ground := Ground.phase }, { on := 13, ground := Ground.phase }, { on := 14, ground := Ground.phase }, { on := 15, ground := Ground.phase }, { on := 16, ground := Ground.phase }, { on := 17, ground := Ground.phase }, { on := 18, ground := Ground.phase }, { on := 19, ground := Ground.phase }, { on := 20, ground := Ground.phase }, { on := 21, ground := Ground.phase }, { on := 22, ground := Ground.phase }], guard := none }
def Lb:Array Oper:=#[zJt,zJu,zJv,zJw,zJx,zJy,zJz,zJ0,zJ1,zJ2,zIt,zIu,zIv,Ks,Jb,Jc,Jd,Je,Kt,Ku,Kv,Hj,Hk,Hl]
attribute [local irreducible] Oper.wp
def F19(pa:Option Addr)(pn pc:Nat)(vm vd vs:Int)(heard:List UInt8)(A:Act):Prop:=A.tmps.size=260∧A.eval (.tmp 123)=.slice pa pn pc∧A.eval (.tmp 131)=.agg #[.int .i64 vm,.int .i64 vd,.int .i64 vs]∧A.eval (.tmp 132)=.string ⟨heard.toArray⟩
theorem zEt{Q:Exit→Act→World→Prop}{pa:Option Addr}{pn pc:Nat}{vm vd vs:Int}{heard:List UInt8}{V:Int×Int×Int}{E:Ent}{w:World}{A:Act}(hA:F19 pa pn pc vm vd vs heard A)(K5:∀W:World,Below w.heap.size w W→Calls prog 146 #[.slice pa pn pc,.agg #[.int .i64 vm,.int .i64 vd,.int .i64 vs],.string ⟨heard.toArray⟩] W fun e w'=>e=.returned (.tuple #[.agg #[.int .i64 V.1,.int .i64 V.2.1,.int .i64 V.2.2],E.v,.agg #[.int .i64 0,.int .i64 (-1)]])∧Below W.heap.size W w'){up:Nat→Bool}{u:Nat→Value}{w':World}(_hd:∀e∈Ks.after,Region.binds .any e=true→up e.on=true)(hJ:J19 w (.tuple #[.agg #[.int .i64 V.1,.int .i64 V.2.1,.int .i64 V.2.2],E.v,.agg #[.int .i64 0,.int .i64 (-1)]]) (.agg #[.int .i64 V.1,.int .i64 V.2.1,.int .i64 V.2.2]) E.v (.agg #[.int .i64 0,.int .i64 (-1)]) #[.int .i64 V.1,.int .i64 V.2.1,.int .i64 V.2.2] #[.int .i64 E.slot,.int .i64 E.frm,.bool E.heard,.int .i64 E.value] #[.int .i64 0,.int .i64 (-1)] up u w') :
 if Region.wanted Ks (yielded Lb (A0 A [133,119,134,135,136,14,15,16] u).tmps)=true then Oper.wp prog Ks (A0 A [133,119,134,135,136,14,15,16] u) w' (fun a' w''=>∃u',a'=A0 A [133,119,134,135,136,14,15,16] u'∧J19 w (.tuple #[.agg #[.int .i64 V.1,.int .i64 V.2.1,.int .i64 V.2.2],E.v,.agg #[.int .i64 0,.int .i64 (-1)]]) (.agg #[.int .i64 V.1,.int .i64 V.2.1,.int .i64 V.2.2]) E.v (.agg #[.int .i64 0,.int .i64 (-1)]) #[.int .i64 V.1,.int .i64 V.2.1,.int .i64 V.2.2] #[.int .i64 E.slot,.int .i64 E.frm,.bool E.heard,.int .i64 E.value] #[.int .i64 0,.int .i64 (-1)] (upB up 13) u' w'') Q else ∃u',(A0 A [133,119,134,135,136,14,15,16] u).put Ks.dst undef=A0 A [133,119,134,135,136,14,15,16] u'∧J19 w (.tuple #[.agg #[.int .i64 V.1,.int .i64 V.2.1,.int .i64 V.2.2],E.v,.agg #[.int .i64 0,.int .i64 (-1)]]) (.agg #[.int .i64 V.1,.int .i64 V.2.1,.int .i64 V.2.2]) E.v (.agg #[.int .i64 0,.int .i64 (-1)]) #[.int .i64 V.1,.int .i64 V.2.1,.int .i64 V.2.2] #[.int .i64 E.slot,.int .i64 E.frm,.bool E.heard,.int .i64 E.value] #[.int .i64 0,.int .i64 (-1)] (upB up 13) u' w':=by
 have e1:(A0 A [133,119,134,135,136,14,15,16] u).eval (.tmp 123)=.slice pa pn pc:=(Ss (by decide) (by decide)).trans hA.2.1;have e2:(A0 A [133,119,134,135,136,14,15,16] u).eval (.tmp 131)=.agg #[.int .i64 vm,.int .i64 vd,.int .i64 vs]:=(Ss (by decide) (by decide)).trans hA.2.2.1;have e3:(A0 A [133,119,134,135,136,14,15,16] u).eval (.tmp 132)=.string ⟨heard.toArray⟩:=(Ss (by decide) (by decide)).trans hA.2.2.2;refine zI7 rfl rfl (by decide) (by decide) (f:=146) (args:=#[.slice pa pn pc,.agg #[.int .i64 vm,.int .i64 vd,.int .i64 vs],.string ⟨heard.toArray⟩]) (by simp only[Act.eval,Array.getD_eq_getD_getElem?] at e1 e2 e3;unfold Ks;go_simp) ?_;refine(K5 w' hJ.low).mono ?_;rintro e w7⟨rfl,hb7⟩;exact⟨_,rfl,hJ.s13 hb7⟩
theorem zEu{Q:Exit→Act→World→Prop}{pa:Option Addr}{pn pc:Nat}{vm vd vs:Int}{heard:List UInt8}{V:Int×Int×Int}{E:Ent}{w:World}{A:Act}(hA:F19 pa pn pc vm vd vs heard A){up:Nat→Bool}{u:Nat→Value}{w':World}(hd:∀e∈Jb.after,Region.binds .any e=true→up e.on=true)(hJ:J19 w (.tuple #[.agg #[.int .i64 V.1,.int .i64 V.2.1,.int .i64 V.2.2],E.v,.agg #[.int .i64 0,.int .i64 (-1)]]) (.agg #[.int .i64 V.1,.int .i64 V.2.1,.int .i64 V.2.2]) E.v (.agg #[.int .i64 0,.int .i64 (-1)]) #[.int .i64 V.1,.int .i64 V.2.1,.int .i64 V.2.2] #[.int .i64 E.slot,.int .i64 E.frm,.bool E.heard,.int .i64 E.value] #[.int .i64 0,.int .i64 (-1)] up u w') :
 if Region.wanted Jb (yielded Lb (A0 A [133,119,134,135,136,14,15,16] u).tmps)=true then Oper.wp prog Jb (A0 A [133,119,134,135,136,14,15,16] u) w' (fun a' w''=>∃u',a'=A0 A [133,119,134,135,136,14,15,16] u'∧J19 w (.tuple #[.agg #[.int .i64 V.1,.int .i64 V.2.1,.int .i64 V.2.2],E.v,.agg #[.int .i64 0,.int .i64 (-1)]]) (.agg #[.int .i64 V.1,.int .i64 V.2.1,.int .i64 V.2.2]) E.v (.agg #[.int .i64 0,.int .i64 (-1)]) #[.int .i64 V.1,.int .i64 V.2.1,.int .i64 V.2.2] #[.int .i64 E.slot,.int .i64 E.frm,.bool E.heard,.int .i64 E.value] #[.int .i64 0,.int .i64 (-1)] (upB up 14) u' w'') Q else ∃u',(A0 A [133,119,134,135,136,14,15,16] u).put Jb.dst undef=A0 A [133,119,134,135,136,14,15,16] u'∧J19 w (.tuple #[.agg #[.int .i64 V.1,.int .i64 V.2.1,.int .i64 V.2.2],E.v,.agg #[.int .i64 0,.int .i64 (-1)]]) (.agg #[.int .i64 V.1,.int .i64 V.2.1,.int .i64 V.2.2]) E.v (.agg #[.int .i64 0,.int .i64 (-1)]) #[.int .i64 V.1,.int .i64 V.2.1,.int .i64 V.2.2] #[.int .i64 E.slot,.int .i64 E.frm,.bool E.heard,.int .i64 E.value] #[.int .i64 0,.int .i64 (-1)] (upB up 14) u' w':=by
 have d13:up 13=true:=hd ⟨13,.data⟩ (by unfold Jb;simp) rfl;have e1:(A0 A [133,119,134,135,136,14,15,16] u).eval (.tmp 133)=u 133:=Gw (by decide) (by decide) (by rw[hA.1];decide);exact Ip rfl rfl (by decide) (by decide) (by simp only[Act.eval,Array.getD_eq_getD_getElem?] at e1;unfold Jb;go_simp) (hJ.s14 d13)
theorem zEv{Q:Exit→Act→World→Prop}{pa:Option Addr}{pn pc:Nat}{vm vd vs:Int}{heard:List UInt8}{V:Int×Int×Int}{E:Ent}{w:World}{A:Act}(hA:F19 pa pn pc vm vd vs heard A){up:Nat→Bool}{u:Nat→Value}{w':World}(hd:∀e∈Jc.after,Region.binds .any e=true→up e.on=true)(hJ:J19 w (.tuple #[.agg #[.int .i64 V.1,.int .i64 V.2.1,.int .i64 V.2.2],E.v,.agg #[.int .i64 0,.int .i64 (-1)]]) (.agg #[.int .i64 V.1,.int .i64 V.2.1,.int .i64 V.2.2]) E.v (.agg #[.int .i64 0,.int .i64 (-1)]) #[.int .i64 V.1,.int .i64 V.2.1,.int .i64 V.2.2] #[.int .i64 E.slot,.int .i64 E.frm,.bool E.heard,.int .i64 E.value] #[.int .i64 0,.int .i64 (-1)] up u w') :
 if Region.wanted Jc (yielded Lb (A0 A [133,119,134,135,136,14,15,16] u).tmps)=true then Oper.wp prog Jc (A0 A [133,119,134,135,136,14,15,16] u) w' (fun a' w''=>∃u',a'=A0 A [133,119,134,135,136,14,15,16] u'∧J19 w (.tuple #[.agg #[.int .i64 V.1,.int .i64 V.2.1,.int .i64 V.2.2],E.v,.agg #[.int .i64 0,.int .i64 (-1)]]) (.agg #[.int .i64 V.1,.int .i64 V.2.1,.int .i64 V.2.2]) E.v (.agg #[.int .i64 0,.int .i64 (-1)]) #[.int .i64 V.1,.int .i64 V.2.1,.int .i64 V.2.2] #[.int .i64 E.slot,.int .i64 E.frm,.bool E.heard,.int .i64 E.value] #[.int .i64 0,.int .i64 (-1)] (upB up 15) u' w'') Q else ∃u',(A0 A [133,119,134,135,136,14,15,16] u).put Jc.dst undef=A0 A [133,119,134,135,136,14,15,16] u'∧J19 w (.tuple #[.agg #[.int .i64 V.1,.int .i64 V.2.1,.int .i64 V.2.2],E.v,.agg #[.int .i64 0,.int .i64 (-1)]]) (.agg #[.int .i64 V.1,.int .i64 V.2.1,.int .i64 V.2.2]) E.v (.agg #[.int .i64 0,.int .i64 (-1)]) #[.int .i64 V.1,.int .i64 V.2.1,.int .i64 V.2.2] #[.int .i64 E.slot,.int .i64 E.frm,.bool E.heard,.int .i64 E.value] #[.int .i64 0,.int .i64 (-1)] (upB up 15) u' w':=by
 have d14:up 14=true:=hd ⟨14,.data⟩ (by unfold Jc;simp) rfl;have e1:(A0 A [133,119,134,135,136,14,15,16] u).eval (.tmp 119)=_:=(Gw (by decide) (by decide) (by rw[hA.1];decide)).trans (hJ.mv d14);refine Ip (I:=J19 w (.tuple #[.agg #[.int .i64 V.1,.int .i64 V.2.1,.int .i64 V.2.2],E.v,.agg #[.int .i64 0,.int .i64 (-1)]]) (.agg #[.int .i64 V.1,.int .i64 V.2.1,.int .i64 V.2.2]) E.v (.agg #[.int .i64 0,.int .i64 (-1)]) #[.int .i64 V.1,.int .i64 V.2.1,.int .i64 V.2.2] #[.int .i64 E.slot,.int .i64 E.frm,.bool E.heard,.int .i64 E.value] #[.int .i64 0,.int .i64 (-1)]) (v:=(.agg #[.int .i64 V.1,.int .i64 V.2.1,.int .i64 V.2.2])) rfl rfl (by decide) (by decide) ?_ hJ.s15;simp only[Act.eval,Array.getD_eq_getD_getElem?] at e1;unfold Jc;go_simp
theorem zEw{Q:Exit→Act→World→Prop}{pa:Option Addr}{pn pc:Nat}{vm vd vs:Int}{heard:List UInt8}{V:Int×Int×Int}{E:Ent}{w:World}{A:Act}(hA:F19 pa pn pc vm vd vs heard A){up:Nat→Bool}{u:Nat→Value}{w':World}(hd:∀e∈Jd.after,Region.binds .any e=true→up e.on=true)(hJ:J19 w (.tuple #[.agg #[.int .i64 V.1,.int .i64 V.2.1,.int .i64 V.2.2],E.v,.agg #[.int .i64 0,.int .i64 (-1)]]) (.agg #[.int .i64 V.1,.int .i64 V.2.1,.int .i64 V.2.2]) E.v (.agg #[.int .i64 0,.int .i64 (-1)]) #[.int .i64 V.1,.int .i64 V.2.1,.int .i64 V.2.2] #[.int .i64 E.slot,.int .i64 E.frm,.bool E.heard,.int .i64 E.value] #[.int .i64 0,.int .i64 (-1)] up u w') :
 if Region.wanted Jd (yielded Lb (A0 A [133,119,134,135,136,14,15,16] u).tmps)=true then Oper.wp prog Jd (A0 A [133,119,134,135,136,14,15,16] u) w' (fun a' w''=>∃u',a'=A0 A [133,119,134,135,136,14,15,16] u'∧J19 w (.tuple #[.agg #[.int .i64 V.1,.int .i64 V.2.1,.int .i64 V.2.2],E.v,.agg #[.int .i64 0,.int .i64 (-1)]]) (.agg #[.int .i64 V.1,.int .i64 V.2.1,.int .i64 V.2.2]) E.v (.agg #[.int .i64 0,.int .i64 (-1)]) #[.int .i64 V.1,.int .i64 V.2.1,.int .i64 V.2.2] #[.int .i64 E.slot,.int .i64 E.frm,.bool E.heard,.int .i64 E.value] #[.int .i64 0,.int .i64 (-1)] (upB up 16) u' w'') Q else ∃u',(A0 A [133,119,134,135,136,14,15,16] u).put Jd.dst undef=A0 A [133,119,134,135,136,14,15,16] u'∧J19 w (.tuple #[.agg #[.int .i64 V.1,.int .i64 V.2.1,.int .i64 V.2.2],E.v,.agg #[.int .i64 0,.int .i64 (-1)]]) (.agg #[.int .i64 V.1,.int .i64 V.2.1,.int .i64 V.2.2]) E.v (.agg #[.int .i64 0,.int .i64 (-1)]) #[.int .i64 V.1,.int .i64 V.2.1,.int .i64 V.2.2] #[.int .i64 E.slot,.int .i64 E.frm,.bool E.heard,.int .i64 E.value] #[.int .i64 0,.int .i64 (-1)] (upB up 16) u' w':=by
 have d14:up 14=true:=hd ⟨14,.data⟩ (by unfold Jd;simp) rfl;have e1:(A0 A [133,119,134,135,136,14,15,16] u).eval (.tmp 119)=_:=(Gw (by decide) (by decide) (by rw[hA.1];decide)).trans (hJ.mv d14);refine Ip (I:=J19 w (.tuple #[.agg #[.int .i64 V.1,.int .i64 V.2.1,.int .i64 V.2.2],E.v,.agg #[.int .i64 0,.int .i64 (-1)]]) (.agg #[.int .i64 V.1,.int .i64 V.2.1,.int .i64 V.2.2]) E.v (.agg #[.int .i64 0,.int .i64 (-1)]) #[.int .i64 V.1,.int .i64 V.2.1,.int .i64 V.2.2] #[.int .i64 E.slot,.int .i64 E.frm,.bool E.heard,.int .i64 E.value] #[.int .i64 0,.int .i64 (-1)]) (v:=E.v) rfl rfl (by decide) (by decide) ?_ hJ.s16;simp only[Act.eval,Array.getD_eq_getD_getElem?] at e1;unfold Jd;go_simp
theorem zEx{Q:Exit→Act→World→Prop}{pa:Option Addr}{pn pc:Nat}{vm vd vs:Int}{heard:List UInt8}{V:Int×Int×Int}{E:Ent}{w:World}{A:Act}(hA:F19 pa pn pc vm vd vs heard A){up:Nat→Bool}{u:Nat→Value}{w':World}(hd:∀e∈Je.after,Region.binds .any e=true→up e.on=true)(hJ:J19 w (.tuple #[.agg #[.int .i64 V.1,.int .i64 V.2.1,.int .i64 V.2.2],E.v,.agg #[.int .i64 0,.int .i64 (-1)]]) (.agg #[.int .i64 V.1,.int .i64 V.2.1,.int .i64 V.2.2]) E.v (.agg #[.int .i64 0,.int .i64 (-1)]) #[.int .i64 V.1,.int .i64 V.2.1,.int .i64 V.2.2] #[.int .i64 E.slot,.int .i64 E.frm,.bool E.heard,.int .i64 E.value] #[.int .i64 0,.int .i64 (-1)] up u w') :
 if Region.wanted Je (yielded Lb (A0 A [133,119,134,135,136,14,15,16] u).tmps)=true then Oper.wp prog Je (A0 A [133,119,134,135,136,14,15,16] u) w' (fun a' w''=>∃u',a'=A0 A [133,119,134,135,136,14,15,16] u'∧J19 w (.tuple #[.agg #[.int .i64 V.1,.int .i64 V.2.1,.int .i64 V.2.2],E.v,.agg #[.int .i64 0,.int .i64 (-1)]]) (.agg #[.int .i64 V.1,.int .i64 V.2.1,.int .i64 V.2.2]) E.v (.agg #[.int .i64 0,.int .i64 (-1)]) #[.int .i64 V.1,.int .i64 V.2.1,.int .i64 V.2.2] #[.int .i64 E.slot,.int .i64 E.frm,.bool E.heard,.int .i64 E.value] #[.int .i64 0,.int .i64 (-1)] (upB up 17) u' w'') Q else ∃u',(A0 A [133,119,134,135,136,14,15,16] u).put Je.dst undef=A0 A [133,119,134,135,136,14,15,16] u'∧J19 w (.tuple #[.agg #[.int .i64 V.1,.int .i64 V.2.1,.int .i64 V.2.2],E.v,.agg #[.int .i64 0,.int .i64 (-1)]]) (.agg #[.int .i64 V.1,.int .i64 V.2.1,.int .i64 V.2.2]) E.v (.agg #[.int .i64 0,.int .i64 (-1)]) #[.int .i64 V.1,.int .i64 V.2.1,.int .i64 V.2.2] #[.int .i64 E.slot,.int .i64 E.frm,.bool E.heard,.int .i64 E.value] #[.int .i64 0,.int .i64 (-1)] (upB up 17) u' w':=by
 have d14:up 14=true:=hd ⟨14,.data⟩ (by unfold Je;simp) rfl;have e1:(A0 A [133,119,134,135,136,14,15,16] u).eval (.tmp 119)=_:=(Gw (by decide) (by decide) (by rw[hA.1];decide)).trans (hJ.mv d14);refine Ip (I:=J19 w (.tuple #[.agg #[.int .i64 V.1,.int .i64 V.2.1,.int .i64 V.2.2],E.v,.agg #[.int .i64 0,.int .i64 (-1)]]) (.agg #[.int .i64 V.1,.int .i64 V.2.1,.int .i64 V.2.2]) E.v (.agg #[.int .i64 0,.int .i64 (-1)]) #[.int .i64 V.1,.int .i64 V.2.1,.int .i64 V.2.2] #[.int .i64 E.slot,.int .i64 E.frm,.bool E.heard,.int .i64 E.value] #[.int .i64 0,.int .i64 (-1)]) (v:=(.agg #[.int .i64 0,.int .i64 (-1)])) rfl rfl (by decide) (by decide) ?_ hJ.s17;simp only[Act.eval,Array.getD_eq_getD_getElem?] at e1;unfold Je;go_simp
theorem zEy{Q:Exit→Act→World→Prop}{pa:Option Addr}{pn pc:Nat}{vm vd vs:Int}{heard:List UInt8}{V:Int×Int×Int}{E:Ent}{w:World}{A:Act}(_hA:F19 pa pn pc vm vd vs heard A){up:Nat→Bool}{u:Nat→Value}{w':World}(hun:up 18=false)(_hd:∀e∈Kt.after,Region.binds .any e=true→up e.on=true)(hJ:J19 w (.tuple #[.agg #[.int .i64 V.1,.int .i64 V.2.1,.int .i64 V.2.2],E.v,.agg #[.int .i64 0,.int .i64 (-1)]]) (.agg #[.int .i64 V.1,.int .i64 V.2.1,.int .i64 V.2.2]) E.v (.agg #[.int .i64 0,.int .i64 (-1)]) #[.int .i64 V.1,.int .i64 V.2.1,.int .i64 V.2.2] #[.int .i64 E.slot,.int .i64 E.frm,.bool E.heard,.int .i64 E.value] #[.int .i64 0,.int .i64 (-1)] up u w') :
 if Region.wanted Kt (yielded Lb (A0 A [133,119,134,135,136,14,15,16] u).tmps)=true then Oper.wp prog Kt (A0 A [133,119,134,135,136,14,15,16] u) w' (fun a' w''=>∃u',a'=A0 A [133,119,134,135,136,14,15,16] u'∧J19 w (.tuple #[.agg #[.int .i64 V.1,.int .i64 V.2.1,.int .i64 V.2.2],E.v,.agg #[.int .i64 0,.int .i64 (-1)]]) (.agg #[.int .i64 V.1,.int .i64 V.2.1,.int .i64 V.2.2]) E.v (.agg #[.int .i64 0,.int .i64 (-1)]) #[.int .i64 V.1,.int .i64 V.2.1,.int .i64 V.2.2] #[.int .i64 E.slot,.int .i64 E.frm,.bool E.heard,.int .i64 E.value] #[.int .i64 0,.int .i64 (-1)] (upB up 18) u' w'') Q else ∃u',(A0 A [133,119,134,135,136,14,15,16] u).put Kt.dst undef=A0 A [133,119,134,135,136,14,15,16] u'∧J19 w (.tuple #[.agg #[.int .i64 V.1,.int .i64 V.2.1,.int .i64 V.2.2],E.v,.agg #[.int .i64 0,.int .i64 (-1)]]) (.agg #[.int .i64 V.1,.int .i64 V.2.1,.int .i64 V.2.2]) E.v (.agg #[.int .i64 0,.int .i64 (-1)]) #[.int .i64 V.1,.int .i64 V.2.1,.int .i64 V.2.2] #[.int .i64 E.slot,.int .i64 E.frm,.bool E.heard,.int .i64 E.value] #[.int .i64 0,.int .i64 (-1)] (upB up 18) u' w':=by
 exact Ip rfl rfl (by decide) (by decide) (by unfold Kt;go_simp) (hJ.s18 hun #[.int .i64 0,.int .i64 0,.int .i64 0] rfl)
theorem zEz{Q:Exit→Act→World→Prop}{pa:Option Addr}{pn pc:Nat}{vm vd vs:Int}{heard:List UInt8}{V:Int×Int×Int}{E:Ent}{w:World}{A:Act}(_hA:F19 pa pn pc vm vd vs heard A){up:Nat→Bool}{u:Nat→Value}{w':World}(hun:up 19=false)(_hd:∀e∈Ku.after,Region.binds .any e=true→up e.on=true)(hJ:J19 w (.tuple #[.agg #[.int .i64 V.1,.int .i64 V.2.1,.int .i64 V.2.2],E.v,.agg #[.int .i64 0,.int .i64 (-1)]]) (.agg #[.int .i64 V.1,.int .i64 V.2.1,.int .i64 V.2.2]) E.v (.agg #[.int .i64 0,.int .i64 (-1)]) #[.int .i64 V.1,.int .i64 V.2.1,.int .i64 V.2.2] #[.int .i64 E.slot,.int .i64 E.frm,.bool E.heard,.int .i64 E.value] #[.int .i64 0,.int .i64 (-1)] up u w') :
 if Region.wanted Ku (yielded Lb (A0 A [133,119,134,135,136,14,15,16] u).tmps)=true then Oper.wp prog Ku (A0 A [133,119,134,135,136,14,15,16] u) w' (fun a' w''=>∃u',a'=A0 A [133,119,134,135,136,14,15,16] u'∧J19 w (.tuple #[.agg #[.int .i64 V.1,.int .i64 V.2.1,.int .i64 V.2.2],E.v,.agg #[.int .i64 0,.int .i64 (-1)]]) (.agg #[.int .i64 V.1,.int .i64 V.2.1,.int .i64 V.2.2]) E.v (.agg #[.int .i64 0,.int .i64 (-1)]) #[.int .i64 V.1,.int .i64 V.2.1,.int .i64 V.2.2] #[.int .i64 E.slot,.int .i64 E.frm,.bool E.heard,.int .i64 E.value] #[.int .i64 0,.int .i64 (-1)] (upB up 19) u' w'') Q else ∃u',(A0 A [133,119,134,135,136,14,15,16] u).put Ku.dst undef=A0 A [133,119,134,135,136,14,15,16] u'∧J19 w (.tuple #[.agg #[.int .i64 V.1,.int .i64 V.2.1,.int .i64 V.2.2],E.v,.agg #[.int .i64 0,.int .i64 (-1)]]) (.agg #[.int .i64 V.1,.int .i64 V.2.1,.int .i64 V.2.2]) E.v (.agg #[.int .i64 0,.int .i64 (-1)]) #[.int .i64 V.1,.int .i64 V.2.1,.int .i64 V.2.2] #[.int .i64 E.slot,.int .i64 E.frm,.bool E.heard,.int .i64 E.value] #[.int .i64 0,.int .i64 (-1)] (upB up 19) u' w':=by
 exact Ip rfl rfl (by decide) (by decide) (by unfold Ku;go_simp) (hJ.s19 hun #[.int .i64 0,.int .i64 0,.bool false,.int .i64 0] rfl)
theorem zE0{Q:Exit→Act→World→Prop}{pa:Option Addr}{pn pc:Nat}{vm vd vs:Int}{heard:List UInt8}{V:Int×Int×Int}{E:Ent}{w:World}{A:Act}(_hA:F19 pa pn pc vm vd vs heard A){up:Nat→Bool}{u:Nat→Value}{w':World}(hun:up 20=false)(_hd:∀e∈Kv.after,Region.binds .any e=true→up e.on=true)(hJ:J19 w (.tuple #[.agg #[.int .i64 V.1,.int .i64 V.2.1,.int .i64 V.2.2],E.v,.agg #[.int .i64 0,.int .i64 (-1)]]) (.agg #[.int .i64 V.1,.int .i64 V.2.1,.int .i64 V.2.2]) E.v (.agg #[.int .i64 0,.int .i64 (-1)]) #[.int .i64 V.1,.int .i64 V.2.1,.int .i64 V.2.2] #[.int .i64 E.slot,.int .i64 E.frm,.bool E.heard,.int .i64 E.value] #[.int .i64 0,.int .i64 (-1)] up u w') :
 if Region.wanted Kv (yielded Lb (A0 A [133,119,134,135,136,14,15,16] u).tmps)=true then Oper.wp prog Kv (A0 A [133,119,134,135,136,14,15,16] u) w' (fun a' w''=>∃u',a'=A0 A [133,119,134,135,136,14,15,16] u'∧J19 w (.tuple #[.agg #[.int .i64 V.1,.int .i64 V.2.1,.int .i64 V.2.2],E.v,.agg #[.int .i64 0,.int .i64 (-1)]]) (.agg #[.int .i64 V.1,.int .i64 V.2.1,.int .i64 V.2.2]) E.v (.agg #[.int .i64 0,.int .i64 (-1)]) #[.int .i64 V.1,.int .i64 V.2.1,.int .i64 V.2.2] #[.int .i64 E.slot,.int .i64 E.frm,.bool E.heard,.int .i64 E.value] #[.int .i64 0,.int .i64 (-1)] (upB up 20) u' w'') Q else ∃u',(A0 A [133,119,134,135,136,14,15,16] u).put Kv.dst undef=A0 A [133,119,134,135,136,14,15,16] u'∧J19 w (.tuple #[.agg #[.int .i64 V.1,.int .i64 V.2.1,.int .i64 V.2.2],E.v,.agg #[.int .i64 0,.int .i64 (-1)]]) (.agg #[.int .i64 V.1,.int .i64 V.2.1,.int .i64 V.2.2]) E.v (.agg #[.int .i64 0,.int .i64 (-1)]) #[.int .i64 V.1,.int .i64 V.2.1,.int .i64 V.2.2] #[.int .i64 E.slot,.int .i64 E.frm,.bool E.heard,.int .i64 E.value] #[.int .i64 0,.int .i64 (-1)] (upB up 20) u' w':=by
 exact Ip rfl rfl (by decide) (by decide) (by unfold Kv;go_simp) (hJ.s20 hun #[.int .i64 0,.int .i64 0] rfl)
theorem zE1{Q:Exit→Act→World→Prop}{pa:Option Addr}{pn pc:Nat}{vm vd vs:Int}{heard:List UInt8}{V:Int×Int×Int}{E:Ent}{w:World}{A:Act}(hA:F19 pa pn pc vm vd vs heard A){up:Nat→Bool}{u:Nat→Value}{w':World}(hd:∀e∈Hj.after,Region.binds .any e=true→up e.on=true)(hJ:J19 w (.tuple #[.agg #[.int .i64 V.1,.int .i64 V.2.1,.int .i64 V.2.2],E.v,.agg #[.int .i64 0,.int .i64 (-1)]]) (.agg #[.int .i64 V.1,.int .i64 V.2.1,.int .i64 V.2.2]) E.v (.agg #[.int .i64 0,.int .i64 (-1)]) #[.int .i64 V.1,.int .i64 V.2.1,.int .i64 V.2.2] #[.int .i64 E.slot,.int .i64 E.frm,.bool E.heard,.int .i64 E.value] #[.int .i64 0,.int .i64 (-1)] up u w') :
 if Region.wanted Hj (yielded Lb (A0 A [133,119,134,135,136,14,15,16] u).tmps)=true then Oper.wp prog Hj (A0 A [133,119,134,135,136,14,15,16] u) w' (fun a' w''=>∃u',a'=A0 A [133,119,134,135,136,14,15,16] u'∧J19 w (.tuple #[.agg #[.int .i64 V.1,.int .i64 V.2.1,.int .i64 V.2.2],E.v,.agg #[.int .i64 0,.int .i64 (-1)]]) (.agg #[.int .i64 V.1,.int .i64 V.2.1,.int .i64 V.2.2]) E.v (.agg #[.int .i64 0,.int .i64 (-1)]) #[.int .i64 V.1,.int .i64 V.2.1,.int .i64 V.2.2] #[.int .i64 E.slot,.int .i64 E.frm,.bool E.heard,.int .i64 E.value] #[.int .i64 0,.int .i64 (-1)] (upB up 21) u' w'') Q else ∃u',(A0 A [133,119,134,135,136,14,15,16] u).put Hj.dst undef=A0 A [133,119,134,135,136,14,15,16] u'∧J19 w (.tuple #[.agg #[.int .i64 V.1,.int .i64 V.2.1,.int .i64 V.2.2],E.v,.agg #[.int .i64 0,.int .i64 (-1)]]) (.agg #[.int .i64 V.1,.int .i64 V.2.1,.int .i64 V.2.2]) E.v (.agg #[.int .i64 0,.int .i64 (-1)]) #[.int .i64 V.1,.int .i64 V.2.1,.int .i64 V.2.2] #[.int .i64 E.slot,.int .i64 E.frm,.bool E.heard,.int .i64 E.value] #[.int .i64 0,.int .i64 (-1)] (upB up 21) u' w':=by
 have d18:up 18=true:=hd ⟨18,.data⟩ (by unfold Hj;simp) rfl;have d15:up 15=true:=hd ⟨15,.data⟩ (by unfold Hj;simp) rfl;obtain⟨b,cs,hu,hb,hB,hsz,_⟩:=hJ.a0 d18;have e1:(A0 A [133,119,134,135,136,14,15,16] u).eval (.tmp 14)=.pointer (some ⟨b,0,none⟩):=(Gw (by decide) (by decide) (by rw[hA.1];decide)).trans hu;have e2:(A0 A [133,119,134,135,136,14,15,16] u).eval (.tmp 134)=_:=(Gw (by decide) (by decide) (by rw[hA.1];decide)).trans (hJ.x0 d15)
 obtain⟨x0,x1,x2,rfl⟩:∃x0 x1 x2,cs=#[x0,x1,x2]:=by
  obtain⟨l⟩:=cs
  match l,hsz with
  | [y0,y1,y2],_=>exact⟨y0,y1,y2,rfl⟩
 have q0:=hB.cell 0 rfl;have q1:=hB.cell 1 rfl;have q2:=hB.cell 2 rfl;have qf:=hB.frozen;have hW:Af (((w'.setCell ⟨b,0,none⟩ (.int .i64 V.1)).setCell ⟨b,1,none⟩ (.int .i64 V.2.1)).setCell ⟨b,2,none⟩ (.int .i64 V.2.2)) b 96 #[.int .i64 V.1,.int .i64 V.2.1,.int .i64 V.2.2]:=by have h:=(((hB.set 0 (.int .i64 V.1)).set 1 (.int .i64 V.2.1)).set 2 (.int .i64 V.2.2));simpa using h
 have hF9:Fr (fun j=>j=b) w' (((w'.setCell ⟨b,0,none⟩ (.int .i64 V.1)).setCell ⟨b,1,none⟩ (.int .i64 V.2.1)).setCell ⟨b,2,none⟩ (.int .i64 V.2.2)):=(((Fr.refl (fun j=>j=b) w').setCell (p:=⟨b,0,none⟩) (Or.inl rfl) (.int .i64 V.1)).setCell (p:=⟨b,1,none⟩) (Or.inl rfl) (.int .i64 V.2.1)).setCell (p:=⟨b,2,none⟩) (Or.inl rfl) (.int .i64 V.2.2);clear hB;exact Ww rfl rfl (by simp only[Act.eval,Array.getD_eq_getD_getElem?] at e1 e2;unfold Hj;go_simp) (hJ.s21 d18 hu hF9 hW rfl)
theorem zE2{Q:Exit→Act→World→Prop}{pa:Option Addr}{pn pc:Nat}{vm vd vs:Int}{heard:List UInt8}{V:Int×Int×Int}{E:Ent}{w:World}{A:Act}(hA:F19 pa pn pc vm vd vs heard A){up:Nat→Bool}{u:Nat→Value}{w':World}(hd:∀e∈Hk.after,Region.binds .any e=true→up e.on=true)(hJ:J19 w (.tuple #[.agg #[.int .i64 V.1,.int .i64 V.2.1,.int .i64 V.2.2],E.v,.agg #[.int .i64 0,.int .i64 (-1)]]) (.agg #[.int .i64 V.1,.int .i64 V.2.1,.int .i64 V.2.2]) E.v (.agg #[.int .i64 0,.int .i64 (-1)]) #[.int .i64 V.1,.int .i64 V.2.1,.int .i64 V.2.2] #[.int .i64 E.slot,.int .i64 E.frm,.bool E.heard,.int .i64 E.value] #[.int .i64 0,.int .i64 (-1)] up u w') :
 if Region.wanted Hk (yielded Lb (A0 A [133,119,134,135,136,14,15,16] u).tmps)=true then Oper.wp prog Hk (A0 A [133,119,134,135,136,14,15,16] u) w' (fun a' w''=>∃u',a'=A0 A [133,119,134,135,136,14,15,16] u'∧J19 w (.tuple #[.agg #[.int .i64 V.1,.int .i64 V.2.1,.int .i64 V.2.2],E.v,.agg #[.int .i64 0,.int .i64 (-1)]]) (.agg #[.int .i64 V.1,.int .i64 V.2.1,.int .i64 V.2.2]) E.v (.agg #[.int .i64 0,.int .i64 (-1)]) #[.int .i64 V.1,.int .i64 V.2.1,.int .i64 V.2.2] #[.int .i64 E.slot,.int .i64 E.frm,.bool E.heard,.int .i64 E.value] #[.int .i64 0,.int .i64 (-1)] (upB up 22) u' w'') Q else ∃u',(A0 A [133,119,134,135,136,14,15,16] u).put Hk.dst undef=A0 A [133,119,134,135,136,14,15,16] u'∧J19 w (.tuple #[.agg #[.int .i64 V.1,.int .i64 V.2.1,.int .i64 V.2.2],E.v,.agg #[.int .i64 0,.int .i64 (-1)]]) (.agg #[.int .i64 V.1,.int .i64 V.2.1,.int .i64 V.2.2]) E.v (.agg #[.int .i64 0,.int .i64 (-1)]) #[.int .i64 V.1,.int .i64 V.2.1,.int .i64 V.2.2] #[.int .i64 E.slot,.int .i64 E.frm,.bool E.heard,.int .i64 E.value] #[.int .i64 0,.int .i64 (-1)] (upB up 22) u' w':=by
 have d19:up 19=true:=hd ⟨19,.data⟩ (by unfold Hk;simp) rfl;have d16:up 16=true:=hd ⟨16,.data⟩ (by unfold Hk;simp) rfl;obtain⟨b,cs,hu,hb,hB,hsz,_⟩:=hJ.a1 d19;have e1:(A0 A [133,119,134,135,136,14,15,16] u).eval (.tmp 15)=.pointer (some ⟨b,0,none⟩):=(Gw (by decide) (by decide) (by rw[hA.1];decide)).trans hu;have e2:(A0 A [133,119,134,135,136,14,15,16] u).eval (.tmp 135)=_:=(Gw (by decide) (by decide) (by rw[hA.1];decide)).trans (hJ.x1 d16)
 obtain⟨x0,x1,x2,x3,rfl⟩:∃x0 x1 x2 x3,cs=#[x0,x1,x2,x3]:=by
  obtain⟨l⟩:=cs
  match l,hsz with
  | [y0,y1,y2,y3],_=>exact⟨y0,y1,y2,y3,rfl⟩
 have q0:=hB.cell 0 rfl;have q1:=hB.cell 1 rfl;have q2:=hB.cell 2 rfl;have q3:=hB.cell 3 rfl;have qf:=hB.frozen;have hW:Af ((((w'.setCell ⟨b,0,none⟩ (.int .i64 E.slot)).setCell ⟨b,1,none⟩ (.int .i64 E.frm)).setCell ⟨b,2,none⟩ (.bool E.heard)).setCell ⟨b,3,none⟩ (.int .i64 E.value)) b 146 #[.int .i64 E.slot,.int .i64 E.frm,.bool E.heard,.int .i64 E.value]:=by have h:=((((hB.set 0 (.int .i64 E.slot)).set 1 (.int .i64 E.frm)).set 2 (.bool E.heard)).set 3 (.int .i64 E.value));simpa using h
 have hF9:Fr (fun j=>j=b) w' ((((w'.setCell ⟨b,0,none⟩ (.int .i64 E.slot)).setCell ⟨b,1,none⟩ (.int .i64 E.frm)).setCell ⟨b,2,none⟩ (.bool E.heard)).setCell ⟨b,3,none⟩ (.int .i64 E.value)):=((((Fr.refl (fun j=>j=b) w').setCell (p:=⟨b,0,none⟩) (Or.inl rfl) (.int .i64 E.slot)).setCell (p:=⟨b,1,none⟩) (Or.inl rfl) (.int .i64 E.frm)).setCell (p:=⟨b,2,none⟩) (Or.inl rfl) (.bool E.heard)).setCell (p:=⟨b,3,none⟩) (Or.inl rfl) (.int .i64 E.value);clear hB;exact Ww rfl rfl (by unfold Ent.v at e2;simp only[Act.eval,Array.getD_eq_getD_getElem?] at e1 e2;unfold Hk;go_simp) (hJ.s22 d19 hu hF9 hW rfl)
theorem zE3{Q:Exit→Act→World→Prop}{pa:Option Addr}{pn pc:Nat}{vm vd vs:Int}{heard:List UInt8}{V:Int×Int×Int}{E:Ent}{w:World}{A:Act}(hA:F19 pa pn pc vm vd vs heard A){up:Nat→Bool}{u:Nat→Value}{w':World}(hd:∀e∈Hl.after,Region.binds .any e=true→up e.on=true)(hJ:J19 w (.tuple #[.agg #[.int .i64 V.1,.int .i64 V.2.1,.int .i64 V.2.2],E.v,.agg #[.int .i64 0,.int .i64 (-1)]]) (.agg #[.int .i64 V.1,.int .i64 V.2.1,.int .i64 V.2.2]) E.v (.agg #[.int .i64 0,.int .i64 (-1)]) #[.int .i64 V.1,.int .i64 V.2.1,.int .i64 V.2.2] #[.int .i64 E.slot,.int .i64 E.frm,.bool E.heard,.int .i64 E.value] #[.int .i64 0,.int .i64 (-1)] up u w') :
 if Region.wanted Hl (yielded Lb (A0 A [133,119,134,135,136,14,15,16] u).tmps)=true then Oper.wp prog Hl (A0 A [133,119,134,135,136,14,15,16] u) w' (fun a' w''=>∃u',a'=A0 A [133,119,134,135,136,14,15,16] u'∧J19 w (.tuple #[.agg #[.int .i64 V.1,.int .i64 V.2.1,.int .i64 V.2.2],E.v,.agg #[.int .i64 0,.int .i64 (-1)]]) (.agg #[.int .i64 V.1,.int .i64 V.2.1,.int .i64 V.2.2]) E.v (.agg #[.int .i64 0,.int .i64 (-1)]) #[.int .i64 V.1,.int .i64 V.2.1,.int .i64 V.2.2] #[.int .i64 E.slot,.int .i64 E.frm,.bool E.heard,.int .i64 E.value] #[.int .i64 0,.int .i64 (-1)] (upB up 23) u' w'') Q else ∃u',(A0 A [133,119,134,135,136,14,15,16] u).put Hl.dst undef=A0 A [133,119,134,135,136,14,15,16] u'∧J19 w (.tuple #[.agg #[.int .i64 V.1,.int .i64 V.2.1,.int .i64 V.2.2],E.v,.agg #[.int .i64 0,.int .i64 (-1)]]) (.agg #[.int .i64 V.1,.int .i64 V.2.1,.int .i64 V.2.2]) E.v (.agg #[.int .i64 0,.int .i64 (-1)]) #[.int .i64 V.1,.int .i64 V.2.1,.int .i64 V.2.2] #[.int .i64 E.slot,.int .i64 E.frm,.bool E.heard,.int .i64 E.value] #[.int .i64 0,.int .i64 (-1)] (upB up 23) u' w':=by
 have d20:up 20=true:=hd ⟨20,.data⟩ (by unfold Hl;simp) rfl;have d17:up 17=true:=hd ⟨17,.data⟩ (by unfold Hl;simp) rfl;obtain⟨b,cs,hu,hb,hB,hsz,_⟩:=hJ.a2 d20;have e1:(A0 A [133,119,134,135,136,14,15,16] u).eval (.tmp 16)=.pointer (some ⟨b,0,none⟩):=(Gw (by decide) (by decide) (by rw[hA.1];decide)).trans hu;have e2:(A0 A [133,119,134,135,136,14,15,16] u).eval (.tmp 136)=_:=(Gw (by decide) (by decide) (by rw[hA.1];decide)).trans (hJ.x2 d17)
 obtain⟨x0,x1,rfl⟩:∃x0 x1,cs=#[x0,x1]:=by
  obtain⟨l⟩:=cs
  match l,hsz with
  | [y0,y1],_=>exact⟨y0,y1,rfl⟩
 have q0:=hB.cell 0 rfl;have q1:=hB.cell 1 rfl;have qf:=hB.frozen;have hW:Af ((w'.setCell ⟨b,0,none⟩ (.int .i64 0)).setCell ⟨b,1,none⟩ (.int .i64 (-1))) b 55 #[.int .i64 0,.int .i64 (-1)]:=by have h:=((hB.set 0 (.int .i64 0)).set 1 (.int .i64 (-1)));simpa using h
 have hF9:Fr (fun j=>j=b) w' ((w'.setCell ⟨b,0,none⟩ (.int .i64 0)).setCell ⟨b,1,none⟩ (.int .i64 (-1))):=((Fr.refl (fun j=>j=b) w').setCell (p:=⟨b,0,none⟩) (Or.inl rfl) (.int .i64 0)).setCell (p:=⟨b,1,none⟩) (Or.inl rfl) (.int .i64 (-1));clear hB;exact Ww rfl rfl (by simp only[Act.eval,Array.getD_eq_getD_getElem?] at e1 e2;unfold Hl;go_simp) (hJ.s23 d20 hu hF9 hW rfl)
theorem zG6{Q:Exit→Act→World→Prop}{S:World→Prop}{pa:Option Addr}{pn pc:Nat}{vm vd vs:Int}{heard:List UInt8}{V:Int×Int×Int}{E:Ent}{w:World}{A:Act}{l:Array Bool}{fuel:Nat}(hA:F19 pa pn pc vm vd vs heard A)(hl:l.size=24)(hlf:Uw l≤fuel)(h13:(List.range 24).all (fun j=>l.getD j true==decide (j<13))=true)
 (K5:∀W:World,Below w.heap.size w W→Calls prog 146 #[.slice pa pn pc,.agg #[.int .i64 vm,.int .i64 vd,.int .i64 vs],.string ⟨heard.toArray⟩] W fun e w'=>e=.returned (.tuple #[.agg #[.int .i64 V.1,.int .i64 V.2.1,.int .i64 V.2.2],E.v,.agg #[.int .i64 0,.int .i64 (-1)]])∧Below W.heap.size W w')
 (hS:∀w',Below w.heap.size w w'→S w')
 (h0:∀(b14 b15:Nat) (v16:Value) (w':World),w.heap.size≤b14→w.heap.size≤b15→Af w' b14 96 #[.int .i64 V.1,.int .i64 V.2.1,.int .i64 V.2.2]→Af w' b15 146 #[.int .i64 E.slot,.int .i64 E.frm,.bool E.heard,.int .i64 E.value]→Below w.heap.size w w'→Q .normal ((((((((A.put (some 133) (.tuple #[.agg #[.int .i64 V.1,.int .i64 V.2.1,.int .i64 V.2.2],E.v,.agg #[.int .i64 0,.int .i64 (-1)]])).put (some 119) (.tuple #[.agg #[.int .i64 V.1,.int .i64 V.2.1,.int .i64 V.2.2],E.v,.agg #[.int .i64 0,.int .i64 (-1)]])).put (some 134) (.agg #[.int .i64 V.1,.int .i64 V.2.1,.int .i64 V.2.2])).put (some 135) E.v).put (some 136) (.agg #[.int .i64 0,.int .i64 (-1)])).put (some 14) (.pointer (some ⟨b14,0,none⟩))).put (some 15) (.pointer (some ⟨b15,0,none⟩))).put (some 16) v16) w'):wpAnyH prog .any Lb Q S fuel l A w:=by
 have hg:∀j,j<24→l.getD j true=decide (j<13):=fun j hj=>by
  have:=List.all_eq_true.1 h13 j (List.mem_range.2 hj);simpa using this
 have hf:∀i,13≤i→i<24→¬(l.getD i false=true):=fun i h1 h2=>by
  rw[←Rt (by rw[hl];exact h2),hg i h2];simp;omega
 refine zEi (I:=J19 w (.tuple #[.agg #[.int .i64 V.1,.int .i64 V.2.1,.int .i64 V.2.2],E.v,.agg #[.int .i64 0,.int .i64 (-1)]]) (.agg #[.int .i64 V.1,.int .i64 V.2.1,.int .i64 V.2.2]) E.v (.agg #[.int .i64 0,.int .i64 (-1)]) #[.int .i64 V.1,.int .i64 V.2.1,.int .i64 V.2.2] #[.int .i64 E.slot,.int .i64 E.frm,.bool E.heard,.int .i64 E.value] #[.int .i64 0,.int .i64 (-1)]) (F19 pa pn pc vm vd vs heard) [133,119,134,135,136,14,15,16] [13,14,15,16,17,18,19,20,21,22,23] (by kernel_rfl) (by kernel_rfl) (by rw[hA.1];rfl) hA hl hlf (fun j hj=>?_) ?_ (fun up u w' hJ=>hS w' hJ.low) (fun A hA=>De.cons (o:=Ks) (by kernel_rfl) (fun up u w' _ hd hJ=>zEt hA K5 hd hJ) (De.cons (o:=Jb) (by kernel_rfl) (fun up u w' _ hd hJ=>zEu hA hd hJ) (De.cons (o:=Jc) (by kernel_rfl) (fun up u w' _ hd hJ=>zEv hA hd hJ) (De.cons (o:=Jd) (by kernel_rfl) (fun up u w' _ hd hJ=>zEw hA hd hJ) (De.cons (o:=Je) (by kernel_rfl) (fun up u w' _ hd hJ=>zEx hA hd hJ) (De.cons (o:=Kt) (by kernel_rfl) (fun up u w' hun hd hJ=>zEy hA hun hd hJ) (De.cons (o:=Ku) (by kernel_rfl) (fun up u w' hun hd hJ=>zEz hA hun hd hJ) (De.cons (o:=Kv) (by kernel_rfl) (fun up u w' hun hd hJ=>zE0 hA hun hd hJ) (De.cons (o:=Hj) (by kernel_rfl) (fun up u w' _ hd hJ=>zE1 hA hd hJ) (De.cons (o:=Hk) (by kernel_rfl) (fun up u w' _ hd hJ=>zE2 hA hd hJ) (De.cons (o:=Hl) (by kernel_rfl) (fun up u w' _ hd hJ=>zE3 hA hd hJ) (De.nil)))))))))))) (fun up u w' hup hJ=>?_)
 ·by_cases h:j<24
  ·rw[hg j h]
   simp only[List.mem_cons,List.not_mem_nil,or_false,not_or] at hj;exact decide_eq_true (by omega)
  ·rw[Array.getD_eq_getD_getElem?,Array.getElem?_eq_none (by omega)];rfl
 ·exact⟨Below.refl _ _,fun h=>absurd h (hf 13 (by omega) (by omega)),fun h=>absurd h (hf 14 (by omega) (by omega)),fun h=>absurd h (hf 15 (by omega) (by omega)),fun h=>absurd h (hf 16 (by omega) (by omega)),fun h=>absurd h (hf 17 (by omega) (by omega)),fun h=>absurd h (hf 18 (by omega) (by omega)),fun h=>absurd h (hf 19 (by omega) (by omega)),fun h=>absurd h (hf 20 (by omega) (by omega)),fun h=>absurd h (hf 21 (by omega) (by omega)),fun h=>absurd h (hf 22 (by omega) (by omega)),fun h=>absurd h (hf 23 (by omega) (by omega))⟩
 ·obtain⟨b14,hu14,hz14,hB14⟩:=hJ.fin0 (hup 18 (by simp)) (hup 21 (by simp))
  obtain⟨b15,hu15,hz15,hB15⟩:=hJ.fin1 (hup 19 (by simp)) (hup 22 (by simp));have h:=h0 b14 b15 (u 16) w' hz14 hz15 hB14 hB15 hJ.low
  have e:A0 A [133,119,134,135,136,14,15,16] u=(((((((((A.put (some 133) (.tuple #[.agg #[.int .i64 V.1,.int .i64 V.2.1,.int .i64 V.2.2],E.v,.agg #[.int .i64 0,.int .i64 (-1)]])).put (some 119) (.tuple #[.agg #[.int .i64 V.1,.int .i64 V.2.1,.int .i64 V.2.2],E.v,.agg #[.int .i64 0,.int .i64 (-1)]])).put (some 134) (.agg #[.int .i64 V.1,.int .i64 V.2.1,.int .i64 V.2.2])).put (some 135) E.v).put (some 136) (.agg #[.int .i64 0,.int .i64 (-1)])).put (some 14) (.pointer (some ⟨b14,0,none⟩))).put (some 15) (.pointer (some ⟨b15,0,none⟩))).put (some 16) (u 16))):=by
   simp only[A0,List.foldl_cons,List.foldl_nil,hJ.call (hup 13 (by simp)),hJ.mv (hup 14 (by simp)),hJ.x0 (hup 15 (by simp)),hJ.x1 (hup 16 (by simp)),hJ.x2 (hup 17 (by simp)),hu14,hu15]
  rw[e];exact h
end Go.Proofs.YtppfkokfnoeopaaGreatDoor
