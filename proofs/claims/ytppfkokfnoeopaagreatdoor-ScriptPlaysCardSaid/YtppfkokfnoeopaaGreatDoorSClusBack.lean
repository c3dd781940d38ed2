/- A part of a proof. -/
import Derived.Test.YtppfkokfnoeopaaGreatDoorSCMap
import Derived.Test.YtppfkokfnoeopaaGreatDoorSFold
set_option maxRecDepth 400000
set_option maxHeartbeats 6400000
namespace Go.Proofs.YtppfkokfnoeopaaGreatDoor
open Go.RowKit
theorem Nv:∀(es:List Ent) (i:Int) (e:Ent),(Co i es).1=0→Bu (i+es.length) e=0→(Co i (es++[e])).1=0
 | [],i,e,_,h=>by
  rw[List.nil_append,Co,if_pos (by simpa using h)];rfl
 | x::r,i,e,h,h2=>by
  rw[List.cons_append];unfold Co at h ⊢
  by_cases hz:Bu i x=0
  ·rw[if_pos hz] at h ⊢
   exact Nv r (i+1) e h (by rw[List.length_cons] at h2;rw[show i+1+(r.length:Int)=i+((r.length+1:Nat):Int) by omega];exact h2)
  ·rw[if_neg hz] at h;exact absurd h hz
theorem zFb{es:List Ent}{e:Ent}(h:(chk es).1=0)(hl:es.length<200)(hs:e.slot=es.length)(hf:Aq e.frm=true)(hv:Cr e.value=true)(hh:e.heard=false→e.value=0):(chk (es++[e])).1=0:=by
 have h0:chk es=Co 0 es:=by rw[chk,if_neg (by omega)]
 rw[h0] at h;rw[chk,if_neg (by rw[List.length_append,List.length_singleton];omega)];refine Nv es 0 e h ?_;rw[Bu,if_neg (by omega),if_neg (by simp[hf]),if_neg (by simp[hv]),if_neg (fun x=>x.2 (hh x.1))]
def CP.sent(c:CP):List UInt8:=match c.f (Am c.plan c.time) with
 | some x=>if x.st=2 then Ei c.plan x.m x.d x.s (Am c.plan c.time) x.val else[]
 | none=>[]
def NP.step(plan:List Int)(who:Int)(lost:List Int)(sent:List UInt8)(i:Int)(x:NP):NP:=
 if x.st=2 then
  ⟨2,x.val,(D3 plan x.m x.d x.s (if i≠who∧i∈lost then[] else sent)).1,(D3 plan x.m x.d x.s (if i≠who∧i∈lost then[] else sent)).2.1,(D3 plan x.m x.d x.s (if i≠who∧i∈lost then[] else sent)).2.2,x.h++[Ff plan x.m x.d x.s (if i≠who∧i∈lost then[] else sent)]⟩
 else x
def NP.join(y:NP)(lost:List Int)(i:Int)(x:NP):NP:=if x.st=1∧i∉lost then⟨2,x.val,y.m,y.d,y.s,y.h⟩ else x
structure Ir(time:Nat)(i:Int)(x:NP):Prop where
 node:Aq i=true
 val:Cr x.val=true
 st:x.st=0∨x.st=1∨x.st=2
 on:x.st=2→Bn x.m=true∧0≤x.d∧x.d≤3∧x.s=time∧x.h.length=time∧(chk x.h).1=0
 off:x.st≠2→x.m=0∧x.d=0∧x.s=0∧x.h=[]
theorem Ir.view{time:Nat}{i:Int}{x:NP}(h:Ir time i x)(ha:x.st=2)(ht:time≤1000000):Cs x.m x.d x.s=0:=by
 obtain⟨h1,h2,h3,h4,_⟩:=h.on ha;rw[Cs,if_pos];rw[h1,Bool.true_and,C9,decide_eq_true_eq];omega
theorem zHh{l:List Int}{m d s:Int}{t:List UInt8}(hm:Bn m=true)(hn:Aq (Am l s.toNat)=true):L9 l m d s t<65536:=by
 obtain⟨k,rfl,hk⟩:=Ln hm;have hb:=Dx hn;have h1:k|||At (Am l s.toNat)<65536:=Nat.or_lt_two_pow (n:=16) hk hb
 unfold L9;rw[Int.toNat_natCast]
 split
 ·exact h1
 ·exact Nat.xor_lt_two_pow (n:=16) h1 (Nat.and_lt_two_pow _ hb)
theorem Ir.step{plan:List Int}{time:Nat}{i:Int}{x:NP}(h:Ir time i x)(hp:(Ay plan).1=0)(ht:time<200)(lost:List Int)(sent:List UInt8):Ir (time+1) i (NP.step plan (Am plan time) lost sent i x)∨x.st≠2:=by
 by_cases ha:x.st=2
 ·left
  obtain⟨h1,h2,h3,h4,h5,h6⟩:=h.on ha;have hnd:Aq (Am plan time)=true:=(Ai hp).2.2.2 _ (D0 plan _ (Ai hp).2.1);have hM:(Cg plan x.m x.d x.s).1=0:=by rw[Cg,if_pos hp,h.view ha (by omega)]
  have hF:Ee plan x.m x.d x.s=(0,-1):=by rw[Ee,if_pos hM,if_neg (by omega)]
  have hs:x.s.toNat=time:=by omega
  rw[NP.step,if_pos ha];generalize (if i≠Am plan time∧i∈lost then[] else sent)=t;have hV:D3 plan x.m x.d x.s t=((L9 plan x.m x.d x.s t:Int),x.d,x.s+1):=by rw[D3,if_pos (by rw[hF])]
  have hE:Ff plan x.m x.d x.s t=⟨x.s,Am plan x.s.toNat,Fl plan x.m x.d x.s t,if Fl plan x.m x.d x.s t then(Ak t).2.value else 0⟩:=by rw[Ff,if_pos (by rw[hF])]
  have hlt:=zHh (t:=t) (d:=x.d) h1 (by rw[hs];exact hnd);rw[hV,hE,hs];refine⟨h.node,h.val,Or.inr (Or.inr rfl),fun _=>⟨by simp only[Bn,decide_eq_true_eq];omega,h2,h3,by dsimp only;omega,by simp[h5],?_⟩,fun hh=>absurd rfl hh⟩;refine zFb h6 (by omega) (by dsimp only;omega) hnd ?_ ?_
  ·dsimp only
   split
   ·rename_i hok
    have hz:(Ak t).1=0:=by
     rw[Fl,Ow,decide_eq_true_eq] at hok;exact hok.1
    exact(Fz (zDw hz).1).2.2.2.2
   ·decide
  ·dsimp only
   intro hh;rw[hh];rfl
 ·exact Or.inr ha
theorem Ir.join{time:Nat}{i j:Int}{x y:NP}(h:Ir time i x)(hy:Ir time j y)(ha:y.st=2)(lost:List Int):Ir time i (NP.join y lost i x):=by
 unfold NP.join
 split
 ·exact⟨h.node,h.val,Or.inr (Or.inr rfl),fun _=>hy.on ha,fun hh=>absurd rfl hh⟩
 ·exact h
theorem Ir.endR{time:Nat}{i:Int}{x:NP}(h:Ir time i x)(stays:List Ent→Bool){now:Int}(hn:0≤now∧now≤3):Ir time i (NP.endR stays now x):=by
 unfold NP.endR
 split
 ·rename_i ha
  obtain⟨h1,h2,h3,h4,h5,h6⟩:=h.on ha
  split
  ·exact⟨h.node,h.val,Or.inr (Or.inr rfl),fun _=>⟨h1,hn.1,hn.2,h4,h5,h6⟩,fun hh=>absurd rfl hh⟩
  ·exact⟨h.node,h.val,Or.inl rfl,fun hh=>by simp at hh,fun _=>⟨rfl,rfl,rfl,rfl⟩⟩
 ·exact h
theorem Ir.later{time time':Nat}{i:Int}{x:NP}(h:Ir time i x)(ha:x.st≠2):Ir time' i x:=⟨h.node,h.val,h.st,fun hh=>absurd hh ha,h.off⟩
def CP.f1(c:CP)(lost:List Int):Int→Option NP:=fun i=>(c.f i).map (NP.step c.plan (Am c.plan c.time) lost c.sent i)
def CP.f2(c:CP)(lost:List Int):Int→Option NP:=fun i=>
 if (Ak c.sent).1=0 then(match c.f1 lost (Am c.plan c.time) with|some y=>(c.f1 lost i).map (NP.join y lost i)|none=>c.f1 lost i) else c.f1 lost i
def CP.slot(stays:List Ent→Bool)(c:CP)(lost:List Int):CP:=
 if (c.time+1)%c.plan.length=0 then⟨c.plan,c.time+1,c.turned,-1,fun i=>(c.f2 lost i).map (NP.endR stays c.turned)⟩ else⟨c.plan,c.time+1,c.now,c.asked,c.f2 lost⟩
structure Ce(c:CP):Prop where
 plan:(Ay c.plan).1=0
 time:c.time≤200
 dom:∀i,(c.f i).isSome=decide (i∈c.plan)
 node:∀i x,c.f i=some x→Ir c.time i x
 now:0≤c.now∧c.now≤3
 asked:c.asked=-1∨(0≤c.asked∧c.asked≤3)
theorem Ce.turned{c:CP}(h:Ce c):0≤c.turned∧c.turned≤3:=by
 unfold CP.turned;have:=h.now;have:=h.asked
 split<;>omega
theorem CP.sender{c:CP}(h:(Ak c.sent).1=0):∃x,c.f (Am c.plan c.time)=some x∧x.st=2:=by
 unfold CP.sent at h
 cases hf:c.f (Am c.plan c.time) with
 | none=>rw[hf] at h;exact absurd (show(Ak []).1=0 from h) (by decide +kernel)
 | some x=>
  rw[hf] at h;dsimp only at h
  by_cases ha:x.st=2
  ·exact⟨x,rfl,ha⟩
  ·rw[if_neg ha] at h;exact absurd (show(Ak []).1=0 from h) (by decide +kernel)
theorem NP.step_st{plan:List Int}{who:Int}{lost:List Int}{sent:List UInt8}{i:Int}{x:NP}:(NP.step plan who lost sent i x).st=x.st:=by
 unfold NP.step
 split
 ·rename_i h;exact h.symm
 ·rfl
theorem Ce.f1{c:CP}(h:Ce c)(ht:c.time<200)(lost:List Int):(∀i,(c.f1 lost i).isSome=decide (i∈c.plan))∧∀i x,c.f1 lost i=some x→Ir (c.time+1) i x:=by
 refine⟨fun i=>by rw[CP.f1,Option.isSome_map];exact h.dom i,fun i x hx=>?_⟩;rw[CP.f1,Option.map_eq_some_iff] at hx;obtain⟨y,hy,rfl⟩:=hx;have hN:=h.node i y hy
 rcases hN.step h.plan ht lost c.sent with h1|h1
 ·exact h1
 ·rw[NP.step,if_neg h1];exact hN.later h1
theorem Ce.f2{c:CP}(h:Ce c)(ht:c.time<200)(lost:List Int):(∀i,(c.f2 lost i).isSome=decide (i∈c.plan))∧∀i x,c.f2 lost i=some x→Ir (c.time+1) i x:=by
 obtain⟨h1,h2⟩:=h.f1 ht lost
 by_cases hs:(Ak c.sent).1=0
 ·obtain⟨z,hz,hza⟩:=CP.sender hs
  have hy:c.f1 lost (Am c.plan c.time)=some (NP.step c.plan (Am c.plan c.time) lost c.sent (Am c.plan c.time) z):=by rw[CP.f1,hz];rfl
  have hya:(NP.step c.plan (Am c.plan c.time) lost c.sent (Am c.plan c.time) z).st=2:=by rw[NP.step_st];exact hza
  have hyN:=h2 _ _ hy;have he:∀i,c.f2 lost i=(c.f1 lost i).map (NP.join (NP.step c.plan (Am c.plan c.time) lost c.sent (Am c.plan c.time) z) lost i):=fun i=>by rw[CP.f2,if_pos hs,hy]
  refine⟨fun i=>by rw[he,Option.isSome_map];exact h1 i,fun i x hx=>?_⟩;rw[he,Option.map_eq_some_iff] at hx;obtain⟨u,hu,rfl⟩:=hx;exact(h2 i u hu).join hyN hya lost
 ·have he:∀i,c.f2 lost i=c.f1 lost i:=fun i=>by rw[CP.f2,if_neg hs]
  exact⟨fun i=>by rw[he];exact h1 i,fun i x hx=>h2 i x (by rw[←he];exact hx)⟩
theorem Ce.slot{c:CP}(h:Ce c)(ht:c.time<200)(stays:List Ent→Bool)(lost:List Int):Ce (c.slot stays lost):=by
 obtain⟨h1,h2⟩:=h.f2 ht lost;unfold CP.slot
 split
 ·refine⟨h.plan,ht,fun i=>by dsimp only;rw[Option.isSome_map];exact h1 i,fun i x hx=>?_,h.turned,Or.inl rfl⟩
  dsimp only at hx;rw[Option.map_eq_some_iff] at hx;obtain⟨u,hu,rfl⟩:=hx;exact(h2 i u hu).endR stays h.turned
 ·exact⟨h.plan,ht,h1,h2,h.now,h.asked⟩
theorem Ce.put{c:CP}(h:Ce c){n:Int}{x y:NP}(hx:c.f n=some x)(hy:Ir c.time n y):Ce ⟨c.plan,c.time,c.now,c.asked,fun i=>if i=n then some y else c.f i⟩:=by
 refine⟨h.plan,h.time,fun i=>?_,fun i u hu=>?_,h.now,h.asked⟩
 ·dsimp only
  split
  ·rename_i e;subst e;rw[←h.dom,hx];rfl
  ·exact h.dom i
 ·dsimp only at hu
  split at hu
  ·rename_i e;subst e;obtain rfl:=Option.some.inj hu;exact hy
  ·exact h.node i u hu
theorem Ce.set{c:CP}(h:Ce c)(n v:Int):Ce (c.set n v).1:=by
 unfold CP.set
 cases hf:c.f n with
 | none=>exact h
 | some x=>
  dsimp only
  split
  ·rename_i hv
   have hN:=h.node n x hf;exact h.put hf ⟨hN.node,hv,hN.st,hN.on,hN.off⟩
  ·exact h
theorem Ce.turn{c:CP}(h:Ce c)(n tt:Int)(ht:tt=0∨tt=1):Ce (c.turn n tt).1:=by
 unfold CP.turn
 cases hf:c.f n with
 | none=>exact h
 | some x=>
  dsimp only
  split
  ·exact h
  ·have hN:=h.node n x hf
   exact h.put hf ⟨hN.node,hN.val,by dsimp only;omega,fun hh=>by dsimp only at hh;omega,fun _=>⟨rfl,rfl,rfl,rfl⟩⟩
theorem Ce.ask{c:CP}(h:Ce c)(tt:Int):Ce (c.ask tt).1:=by
 unfold CP.ask
 split
 ·exact h
 ·split
  ·exact h
  ·exact⟨h.plan,h.time,h.dom,h.node,h.now,by dsimp only;omega⟩
theorem Ce.new{l:List Int}(h:(Ay l).1=0):Ce (CP.new l):=by
 have hn:=(Ai h).2.2.2;refine⟨h,Nat.zero_le _,fun i=>?_,fun i x hx=>?_,by show(0:Int)≤0∧(0:Int)≤3;omega,Or.inl rfl⟩
 ·show(if i∈l then some _ else none:Option NP).isSome=_
  by_cases hi:i∈l
  ·simp[hi,CP.new]
  ·simp[hi,CP.new]
 ·have hx':(if i∈l then some (⟨2,0,(A6 l:Nat),0,0,[]⟩:NP) else none)=some x:=hx
  split at hx'
  ·rename_i hi
   obtain rfl:=Option.some.inj hx';have hc:=Hq hn;exact⟨hn i hi,show Cr 0=true by decide,Or.inr (Or.inr rfl),fun _=>⟨by simp only[Bn,decide_eq_true_eq];omega,by dsimp only;omega,by dsimp only;omega,rfl,rfl,show(chk []).1=0 by decide⟩,fun hh=>absurd rfl hh⟩
  ·cases hx'
def zBb(x y:NP):Prop:=x.m=y.m∧x.d=y.d∧x.s=y.s∧x.h=y.h
def E5(f:Int→Option NP):Prop:=∀i j x y,f i=some x→f j=some y→x.st=2→y.st=2→zBb x y
theorem E5.f1{c:CP}(h:E5 c.f):E5 (c.f1 []):=by
 intro i j x y hx hy hxa hya;rw[CP.f1,Option.map_eq_some_iff] at hx hy;obtain⟨u,hu,rfl⟩:=hx;obtain⟨v,hv,rfl⟩:=hy;rw[NP.step_st] at hxa hya;obtain⟨e1,e2,e3,e4⟩:=h i j u v hu hv hxa hya;have q:∀k:Int,¬(k≠Am c.plan c.time∧k∈([]:List Int)):=fun k hk=>by simp at hk
 rw[NP.step,NP.step,if_pos hxa,if_pos hya,if_neg (q i),if_neg (q j),e1,e2,e3,e4];exact⟨rfl,rfl,rfl,rfl⟩
theorem E5.f2{c:CP}(h:E5 c.f):E5 (c.f2 []):=by
 have h1:=h.f1
 by_cases hs:(Ak c.sent).1=0
 ·obtain⟨z,hz,hza⟩:=CP.sender hs
  have hy:c.f1 [] (Am c.plan c.time)=some (NP.step c.plan (Am c.plan c.time) [] c.sent (Am c.plan c.time) z):=by rw[CP.f1,hz];rfl
  have hya:(NP.step c.plan (Am c.plan c.time) [] c.sent (Am c.plan c.time) z).st=2:=by rw[NP.step_st];exact hza
  generalize hY:NP.step c.plan (Am c.plan c.time) [] c.sent (Am c.plan c.time) z=Y at *;have he:∀i,c.f2 [] i=(c.f1 [] i).map (NP.join Y [] i):=fun i=>by rw[CP.f2,if_pos hs,hy]
  have like:∀i x,c.f2 [] i=some x→x.st=2→zBb x Y:=fun i x hx hxa=>by
   rw[he,Option.map_eq_some_iff] at hx;obtain⟨u,hu,rfl⟩:=hx;unfold NP.join at hxa ⊢
   split
   ·exact⟨rfl,rfl,rfl,rfl⟩
   ·rename_i hn
    rw[if_neg hn] at hxa;exact h1 i _ u Y hu hy hxa hya
  intro i j x y hx hy' hxa hya';obtain⟨a1,a2,a3,a4⟩:=like i x hx hxa;obtain⟨b1,b2,b3,b4⟩:=like j y hy' hya';exact⟨a1.trans b1.symm,a2.trans b2.symm,a3.trans b3.symm,a4.trans b4.symm⟩
 ·have he:c.f2 []=c.f1 []:=funext fun i=>by rw[CP.f2,if_neg hs]
  rw[he];exact h1
theorem E5.slot{c:CP}(h:E5 c.f)(stays:List Ent→Bool):E5 (c.slot stays []).f:=by
 have h2:=h.f2;unfold CP.slot
 split
 ·intro i j x y hx hy hxa hya
  dsimp only at hx hy;rw[Option.map_eq_some_iff] at hx hy;obtain⟨u,hu,rfl⟩:=hx;obtain⟨v,hv,rfl⟩:=hy
  have key:∀z:NP,(NP.endR stays c.turned z).st=2→z.st=2∧NP.endR stays c.turned z=⟨2,z.val,z.m,c.turned,z.s,z.h⟩:=fun z hz=>by
   unfold NP.endR at hz ⊢
   split at hz
   ·rename_i ha
    split at hz
    ·rename_i hs2
     exact⟨ha,by rw[if_pos ha,if_pos hs2]⟩
    ·simp at hz
   ·rename_i ha;exact absurd hz ha
  obtain⟨ua,ue⟩:=key u hxa;obtain⟨va,ve⟩:=key v hya;obtain⟨e1,_,e3,e4⟩:=h2 i j u v hu hv ua va;rw[ue,ve];exact⟨e1,rfl,e3,e4⟩
 ·exact h2
theorem E5.put{f:Int→Option NP}(h:E5 f){n:Int}{x y:NP}(hx:f n=some x)(hy:y.st=2→x.st=2∧zBb y x):E5 (fun i=>if i=n then some y else f i):=by
 have like:∀i u,(fun i=>if i=n then some y else f i) i=some u→u.st=2→∃v,f i=some v∧v.st=2∧zBb u v:=fun i u hu hua=>by
  dsimp only at hu
  split at hu
  ·rename_i e
   subst e;obtain rfl:=Option.some.inj hu;exact⟨x,hx,(hy hua).1,(hy hua).2⟩
  ·exact⟨u,hu,hua,rfl,rfl,rfl,rfl⟩
 intro i j u v hu hv hua hva;obtain⟨u',hu',hua',a1,a2,a3,a4⟩:=like i u hu hua;obtain⟨v',hv',hva',b1,b2,b3,b4⟩:=like j v hv hva;obtain⟨e1,e2,e3,e4⟩:=h i j u' v' hu' hv' hua' hva';exact⟨a1.trans (e1.trans b1.symm),a2.trans (e2.trans b2.symm),a3.trans (e3.trans b3.symm),a4.trans (e4.trans b4.symm)⟩
theorem E5.set{c:CP}(h:E5 c.f)(n v:Int):E5 (c.set n v).1.f:=by
 unfold CP.set
 cases hf:c.f n with
 | none=>exact h
 | some x=>
  dsimp only
  split
  ·exact h.put hf (fun ha=>⟨ha,rfl,rfl,rfl,rfl⟩)
  ·exact h
theorem E5.turn{c:CP}(h:E5 c.f)(n t:Int)(ht:t=0∨t=1):E5 (c.turn n t).1.f:=by
 unfold CP.turn
 cases hf:c.f n with
 | none=>exact h
 | some x=>
  dsimp only
  split
  ·exact h
  ·exact h.put hf (fun ha=>by dsimp only at ha;omega)
theorem E5.ask{c:CP}(h:E5 c.f)(t:Int):E5 (c.ask t).1.f:=by
 unfold CP.ask
 split
 ·exact h
 ·split<;>exact h
theorem E5.new(l:List Int):E5 (CP.new l).f:=by
 intro i j x y hx hy _ _;have hx':(if i∈l then some (⟨2,0,(A6 l:Nat),0,0,[]⟩:NP) else none)=some x:=hx;have hy':(if j∈l then some (⟨2,0,(A6 l:Nat),0,0,[]⟩:NP) else none)=some y:=hy
 split at hx'
 ·split at hy'
  ·obtain rfl:=Option.some.inj hx'
   obtain rfl:=Option.some.inj hy';exact⟨rfl,rfl,rfl,rfl⟩
  ·cases hy'
 ·cases hx'
def Ra(plan:List Int)(f:Int→Option NP):Prop:=∀i x,f i=some x→x.st=2→∀j,(hj:j<x.h.length)→x.h[j].frm=Am plan j
theorem Ra.f1{c:CP}(hI:Ce c)(ht:c.time<200)(h:Ra c.plan c.f)(lost:List Int):Ra c.plan (c.f1 lost):=by
 intro i x hx hxa;rw[CP.f1,Option.map_eq_some_iff] at hx;obtain⟨u,hu,rfl⟩:=hx;rw[NP.step_st] at hxa;have hN:=hI.node i u hu;obtain⟨h1,h2,h3,h4,h5,h6⟩:=hN.on hxa;have hM:(Cg c.plan u.m u.d u.s).1=0:=by rw[Cg,if_pos hI.plan,hN.view hxa (by omega)]
 have hF:Ee c.plan u.m u.d u.s=(0,-1):=by rw[Ee,if_pos hM,if_neg (by omega)]
 rw[NP.step,if_pos hxa];intro j hj;dsimp only at hj ⊢;rw[List.length_append,List.length_singleton] at hj
 by_cases hjl:j<u.h.length
 ·rw[List.getElem_append_left hjl];exact h i u hu hxa j hjl
 ·obtain rfl:j=u.h.length:=by omega
  rw[List.getElem_append_right zl];simp only[Nat.sub_self,List.getElem_singleton];rw[Ff,if_pos (by rw[hF])];dsimp only;rw[h4,Int.toNat_natCast,h5]
theorem Ra.slot{c:CP}(hI:Ce c)(ht:c.time<200)(h:Ra c.plan c.f)(stays:List Ent→Bool)(lost:List Int):Ra c.plan (c.slot stays lost).f:=by
 have h1:=h.f1 hI ht lost
 have h2:Ra c.plan (c.f2 lost):=by
  by_cases hs:(Ak c.sent).1=0
  ·obtain⟨z,hz,hza⟩:=CP.sender hs
   have hy:c.f1 lost (Am c.plan c.time)=some (NP.step c.plan (Am c.plan c.time) lost c.sent (Am c.plan c.time) z):=by rw[CP.f1,hz];rfl
   have hya:(NP.step c.plan (Am c.plan c.time) lost c.sent (Am c.plan c.time) z).st=2:=by rw[NP.step_st];exact hza
   generalize hY:NP.step c.plan (Am c.plan c.time) lost c.sent (Am c.plan c.time) z=Y at *;have he:∀i,c.f2 lost i=(c.f1 lost i).map (NP.join Y lost i):=fun i=>by rw[CP.f2,if_pos hs,hy]
   intro i x hx hxa;rw[he,Option.map_eq_some_iff] at hx;obtain⟨u,hu,rfl⟩:=hx;unfold NP.join at hxa ⊢
   split
   ·exact h1 _ Y hy hya
   ·rename_i hn
    rw[if_neg hn] at hxa;exact h1 i u hu hxa
  ·have he:c.f2 lost=c.f1 lost:=funext fun i=>by rw[CP.f2,if_neg hs]
   rw[he];exact h1
 unfold CP.slot
 split
 ·intro i x hx hxa
  dsimp only at hx;rw[Option.map_eq_some_iff] at hx;obtain⟨u,hu,rfl⟩:=hx;unfold NP.endR at hxa ⊢
  split
  ·rename_i ha
   split
   ·exact h2 i u hu ha
   ·intro j hj;simp at hj
  ·rename_i ha;rw[if_neg ha] at hxa;exact absurd hxa ha
 ·exact h2
theorem Ir.mem{plan:List Int}{time:Nat}{i:Int}{x:NP}(h:Ir time i x)(hp:(Ay plan).1=0)(ha:x.st=2)(ht:time≤1000000):(Cg plan x.m x.d x.s).1=0:=by
 rw[Cg,if_pos hp,h.view ha ht]
theorem zIw{k:Nat}{n:Int}(hk:k<65536)(hn:Aq n=true):Ep ((k|||At n:Nat):Int) n=true:=by
 have hor:k|||At n<65536:=Nat.or_lt_two_pow (n:=16) hk (Dx hn)
 have h1:Bn ((k|||At n:Nat):Int)=true:=by simp only[Bn,decide_eq_true_eq];omega
 rw[Ep,h1,hn,Bool.true_and,Bool.true_and,Int.toNat_natCast,Nat.testBit_or,At,Nat.testBit_two_pow];simp
theorem Jh{plan:List Int}{time:Nat}{x:NP}(h:Ir time (Am plan time) x)(hp:(Ay plan).1=0)(ha:x.st=2)(ht:time≤1000000) :
 Fd plan x.m x.d x.s (Am plan time) x.val=(0,-1)∧(Ak (Ei plan x.m x.d x.s (Am plan time) x.val)).1=0∧Fl plan x.m x.d x.s (Ei plan x.m x.d x.s (Am plan time) x.val)=true∧(Ei plan x.m x.d x.s (Am plan time) x.val).length≤95:=by
 have hM:=h.mem hp ha ht;obtain⟨h1,h2,h3,h4,h5,h6⟩:=h.on ha;have hs:x.s.toNat=time:=by omega
 obtain⟨k,hk,hk6⟩:=Ln h1;have hkn:x.m.toNat=k:=by omega
 have hor:k|||At (Am plan time)<65536:=Nat.or_lt_two_pow (n:=16) hk6 (Dx h.node)
 have hE:A8 (Ft plan x.m x.d x.s (Am plan time) x.val)=0:=by
  have hc:Bn ((k|||At (Am plan time):Nat):Int)=true:=by simp only[Bn,decide_eq_true_eq];omega
  have hv:C9 x.d x.s=true:=by rw[C9,decide_eq_true_eq];omega
  simp only[A8,Ft,hkn,h.node,hc,zIw hk6 h.node,hv,h.val,if_true,Bool.true_and]
 have hT:Ei plan x.m x.d x.s (Am plan time) x.val=Fu (Ft plan x.m x.d x.s (Am plan time) x.val):=by
  rw[Ei,if_pos ⟨hM,by rw[hs]⟩,Ly,if_pos hE]
 refine⟨?_,?_,?_,?_⟩
 ·rw[Fd,if_pos hM,if_pos (by rw[hs]),hE]
 ·rw[hT,Uy hE]
 ·rw[hT,Fl,Ow,Uy hE,hs];simp[Ft]
 ·rw[hT];exact N8 hE
theorem Uo:(Ak []).1≠0:=by decide +kernel
theorem Ce.sent{c:CP}(h:Ce c):((Ak c.sent).1=0∧c.sent≠[]∧∃x,c.f (Am c.plan c.time)=some x∧x.st=2)∨(c.sent=[]∧∃x,c.f (Am c.plan c.time)=some x∧x.st≠2):=by
 have hd:=h.dom (Am c.plan c.time);rw[decide_eq_true (D0 c.plan c.time (Ai h.plan).2.1)] at hd;obtain⟨x,hx⟩:=Option.isSome_iff_exists.1 hd
 by_cases ha:x.st=2
 ·left
  have e:c.sent=Ei c.plan x.m x.d x.s (Am c.plan c.time) x.val:=by rw[CP.sent,hx];simp only[ha,if_true]
  have h1:=(Jh (h.node _ x hx) h.plan ha (by have:=h.time;omega)).2.1;rw[e];exact⟨h1,fun e0=>by rw[e0] at h1;exact Uo h1,x,hx,ha⟩
 ·right
  exact⟨by rw[CP.sent,hx];simp only[ha,if_false],x,hx,ha⟩
theorem Ce.sent_len{c:CP}(h:Ce c):c.sent.length≤95:=by
 rcases h.sent with⟨_,_,x,hx,ha⟩|⟨e,_⟩
 ·have e:c.sent=Ei c.plan x.m x.d x.s (Am c.plan c.time) x.val:=by rw[CP.sent,hx];simp only[ha,if_true]
  rw[e];exact(Jh (h.node _ x hx) h.plan ha (by have:=h.time;omega)).2.2.2
 ·rw[e];simp
def Act(f:Int→Option NP)(i:Int):Prop:=∃x,f i=some x∧x.st=2
theorem CP.f2_eq{c:CP}{lost:List Int}(hs:(Ak c.sent).1=0):∃Y,c.f1 lost (Am c.plan c.time)=some Y∧Y.st=2∧∀i,c.f2 lost i=(c.f1 lost i).map (NP.join Y lost i):=by
 obtain⟨z,hz,hza⟩:=CP.sender hs;have hy:c.f1 lost (Am c.plan c.time)=some (NP.step c.plan (Am c.plan c.time) lost c.sent (Am c.plan c.time) z):=by rw[CP.f1,hz];rfl
 exact⟨_,hy,by rw[NP.step_st];exact hza,fun i=>by rw[CP.f2,if_pos hs,hy]⟩
theorem CP.f2_no{c:CP}{lost:List Int}(hs:(Ak c.sent).1≠0):c.f2 lost=c.f1 lost:=funext fun i=>by rw[CP.f2,if_neg hs]
end Go.Proofs.YtppfkokfnoeopaaGreatDoor
