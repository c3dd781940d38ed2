/- A part of a proof. -/
import Derived.Test.YtppfkokfnoeopaaGreatDoorSTxt
import Derived.Test.YtppfkokfnoeopaaGreatDoorSRefBase
set_option maxRecDepth 400000
set_option maxHeartbeats 6400000
namespace Go.Proofs.YtppfkokfnoeopaaGreatDoor
open Go.RowKit Go.Proofs.Tryz
def Gk(t:List UInt8):Option Nat:=if t.length<1∨7<t.length∨(1<t.length∧t.head?=some 48) then none else Lib.decFrom 0 t
theorem J4{s:List UInt8}(h:s.head?≠some 45):Ah s=((Gk s).map fun m:Nat=>(m:Int)).getD 0∧Aw s=(Gk s).isSome:=by
 have:Cl s=(Gk s).map fun m:Nat=>(m:Int):=by
  rw[←Vb,Nk,if_neg h,Gk]
  split<;>rfl
 rw[Ah,Aw,this];exact⟨rfl,by cases Gk s<;>rfl⟩
theorem Ht{t:List UInt8}:Ah (45::t)=(((if t=[48] then none else Gk t)).map fun m:Nat=>-(m:Int)).getD 0∧Aw (45::t)=(if t=[48] then none else Gk t).isSome:=by
 have:Cl (45::t)=(if t=[48] then none else Gk t).map fun m:Nat=>-(m:Int):=by
  rw[←Vb,Nk,if_pos (show(45::t).head?=some 45 from rfl),List.tail_cons,Gk]
  by_cases h1:t=[48]
  ·rw[if_pos h1,if_pos (.inr (.inr (.inr h1)))];rfl
  ·rw[if_neg h1]
   by_cases h2:t.length<1∨7<t.length∨(1<t.length∧t.head?=some 48)
   ·rw[if_pos h2,if_pos (by rcases h2 with h|h|h;exact .inl h;exact .inr (.inl h);exact .inr (.inr (.inl h)))];rfl
   ·rw[if_neg h2,if_neg (fun h=>by rcases h with h|h|h|h;exact h2 (.inl h);exact h2 (.inr (.inl h));exact h2 (.inr (.inr h));exact h1 h)]
 rw[Ah,Aw,this];exact⟨rfl,by cases(if t=[48] then none else Gk t)<;>rfl⟩
theorem Q3(m:Nat)(y:UInt8)(r:List UInt8)(h0:48≤y.toNat)(h1:y.toNat≤57):Lib.decFrom m (y::r)=Lib.decFrom (10*m+(y.toNat-48)) r:=by
 rw[Lib.decFrom,Lib.digitVal,if_pos ⟨h0,h1⟩,Nat.mul_comm]
theorem N0(m:Nat)(y:UInt8)(r:List UInt8)(h:¬(48≤y.toNat∧y.toNat≤57)):Lib.decFrom m (y::r)=none:=by
 rw[Lib.decFrom,Lib.digitVal,if_neg h]
theorem Wv{k:Nat}(h:k≤6):10^k≤1000000:=Nat.pow_le_pow_right (n:=10) (by omega) h
theorem Gq(l:List UInt8)(k:Nat)(hk:k<l.length):(⟨l.toArray⟩:ByteArray)[k]'(by simpa[ByteArray.size] using hk)=l[k]:=rfl
theorem T2(t:List UInt8)(w:World)(h45:t.head?≠some 45)(_hs:t.length≤100000)(h:t=[]) :
 Calls prog 89 #[.string ⟨(t).toArray⟩] w fun e w'=>e=.returned (.tuple #[.int .i64 (Ah (t)),.bool (Aw (t))])∧w=w':=by
 have hR:=J4 h45;have hd:Gk t=none:=by rw[h];decide
 rw[hd] at hR;have HR:Hid (Ah (t)=0∧Aw (t)=false):=hR;clear hR;subst h;go_enter func89,ntmps89;go_wp2;go_ret2;exact⟨by rw[HR.out.1,HR.out.2];rfl,rfl⟩
theorem T3(t:List UInt8)(w:World)(h45:t.head?≠some 45)(hs:t.length≤100000)(h:7<t.length) :
 Calls prog 89 #[.string ⟨(t).toArray⟩] w fun e w'=>e=.returned (.tuple #[.int .i64 (Ah (t)),.bool (Aw (t))])∧w=w':=by
 have hR:=J4 h45;have hd:Gk t=none:=by rw[Gk,if_pos (by omega)]
 rw[hd] at hR;have HR:Hid (Ah (t)=0∧Aw (t)=false):=hR;clear hR;have hlen:0<t.length:=by omega
 have hget:=Gq t 0 hlen;have h45':t[0].toNat≠45:=fun e=>h45 (by rw[List.head?_eq_getElem?,List.getElem?_eq_getElem hlen];congr 1;exact UInt8.toNat_inj.1 e)
 have h45b:(t[0].toNat==45)=false:=by simpa using h45'
 have h45c:((t[0].toNat:Int)==45)=false:=by simp;omega
 go_enter func89,ntmps89;go_wp2;go_ret2;exact⟨by rw[HR.out.1,HR.out.2];rfl,rfl⟩
theorem T6(t:List UInt8)(w:World)(h45:t.head?≠some 45)(_hs:t.length≤100000)(h:1<t.length)(h7:t.length≤7)(hz:t.head?=some 48) :
 Calls prog 89 #[.string ⟨(t).toArray⟩] w fun e w'=>e=.returned (.tuple #[.int .i64 (Ah (t)),.bool (Aw (t))])∧w=w':=by
 have hR:=J4 h45;have hd:Gk t=none:=by rw[Gk,if_pos (.inr (.inr ⟨h,hz⟩))]
 rw[hd] at hR;have HR:Hid (Ah (t)=0∧Aw (t)=false):=hR;clear hR;have hlen:0<t.length:=by omega
 have hget:=Gq t 0 hlen;have h45':t[0].toNat≠45:=fun e=>h45 (by rw[List.head?_eq_getElem?,List.getElem?_eq_getElem hlen];congr 1;exact UInt8.toNat_inj.1 e)
 have h45b:(t[0].toNat==45)=false:=by simpa using h45'
 have h45c:((t[0].toNat:Int)==45)=false:=by simp;omega
 have hz0:t[0]=48:=by rw[List.head?_eq_getElem?,List.getElem?_eq_getElem hlen] at hz;exact Option.some.inj hz
 rw[hz0] at hget;have hq1:decide ((t.length:Int)<1)=false:=decide_eq_false (by omega);have hq2:decide ((7:Int)<(t.length:Int))=false:=decide_eq_false (by omega);have hq3:decide ((1:Int)<(t.length:Int))=true:=decide_eq_true (by omega);go_enter func89,ntmps89;go_wp2;go_ret2;exact⟨by rw[HR.out.1,HR.out.2];rfl,rfl⟩
theorem T4(t:List UInt8)(w:World)(h45:t.head?≠some 45)(hs:t.length≤100000)(h:1<t.length)(h7:t.length≤7)(hz:t.head?≠some 48) :
 Calls prog 89 #[.string ⟨(t).toArray⟩] w fun e w'=>e=.returned (.tuple #[.int .i64 (Ah (t)),.bool (Aw (t))])∧w=w':=by
 have hR:=J4 h45
 have hd:Gk t=Lib.decFrom 0 t:=by
  rw[Gk,if_neg (by rintro(h1|h1|h1);omega;omega;exact hz h1.2)]
 rw[hd] at hR;have HR0:Hid (Lib.decFrom 0 t=none→Ah (t)=0∧Aw (t)=false):=fun e=>by rw[e] at hR;exact hR
 have HR1:Hid (∀m,Lib.decFrom 0 t=some m→Ah (t)=(m:Int)∧Aw (t)=true):=fun m e=>by rw[e] at hR;exact hR
 clear hR;have hlen:0<t.length:=by omega
 have hget:=Gq t 0 hlen;have h45':t[0].toNat≠45:=fun e=>h45 (by rw[List.head?_eq_getElem?,List.getElem?_eq_getElem hlen];congr 1;exact UInt8.toNat_inj.1 e)
 have h45b:(t[0].toNat==45)=false:=by simpa using h45'
 have h45c:((t[0].toNat:Int)==45)=false:=by simp;omega
 have hz0:t[0].toNat≠48:=fun e=>hz (by rw[List.head?_eq_getElem?,List.getElem?_eq_getElem hlen];congr 1;exact UInt8.toNat_inj.1 e)
 have hz1:(t[0].toNat==48)=false:=by simpa using hz0
 have hz2:((t[0].toNat:Int)==48)=false:=by simp;omega
 have hq1:decide ((t.length:Int)<1)=false:=decide_eq_false (by omega);have hq2:decide ((7:Int)<(t.length:Int))=false:=decide_eq_false (by omega);have hq3:decide ((1:Int)<(t.length:Int))=true:=decide_eq_true (by omega);go_enter func89,ntmps89;go_wp2;go_loop [5,6] (fun v i=>∃k m:Nat,k≤t.length∧i=.int .i64 k∧v=.int .i64 m∧m<10^k∧Hid (Lib.decFrom 0 t=Lib.decFrom m (t.drop k))) (fun _ i=>t.length-(intOf i).toNat)
 case atStart=>exact⟨0,0,Nat.zero_le _,rfl,rfl,by simp,rfl⟩
 case round=>
  obtain⟨k,m,hk,rfl,rfl,hm,HD⟩:=hrel
  by_cases hlt:k<t.length
  ·have hgk:=Gq t k hlt
   have hdr:t.drop k=t[k]::t.drop (k+1):=List.drop_eq_getElem_cons hlt;have hp:=Wv (k:=k) (by omega);have hps:Hid (10^(k+1)=10*10^k):=by unfold Hid;rw[Nat.pow_succ];omega
   have hu:t[k].toNat<256:=UInt8.toNat_lt _;have HHit:Hid (48≤t[k].toNat→t[k].toNat≤57→Lib.decFrom m (t[k]::t.drop (k+1))=Lib.decFrom (10*m+(t[k].toNat-48)) (t.drop (k+1))):=Q3 m t[k] _;have HMiss:Hid (¬(48≤t[k].toNat∧t[k].toNat≤57)→Lib.decFrom m (t[k]::t.drop (k+1))=none):=N0 m t[k] _;have HX:Hid (Lib.decFrom 0 t=Lib.decFrom m (t[k]::t.drop (k+1))):=by unfold Hid;rw[HD.out,hdr]
   clear hdr HD;generalize 10^k=P at *;generalize t[k]=y at *
   by_cases h48:y.toNat<48
   ·have d48a:decide (y.toNat<48)=true:=decide_eq_true h48
    have d48b:decide ((y.toNat:Int)<48)=true:=decide_eq_true (by omega);have HN:=zh (HR0.out (by rw[HX.out];exact HMiss.out (by omega)));go_wp2;go_ret2;exact⟨by rw[HN.out.1,HN.out.2];rfl,rfl⟩
   ·have d48:decide (y.toNat<48)=false:=by simpa using h48
    have d48b:decide ((y.toNat:Int)<48)=false:=decide_eq_false (by omega)
    by_cases h57:57<y.toNat
    ·have d57a:decide (57<y.toNat)=true:=decide_eq_true h57
     have d57b:decide ((57:Int)<(y.toNat:Int))=true:=decide_eq_true (by omega);have HN:=zh (HR0.out (by rw[HX.out];exact HMiss.out (by omega)));go_wp2;go_ret2;exact⟨by rw[HN.out.1,HN.out.2];rfl,rfl⟩
    ·have d57:decide (57<y.toNat)=false:=by simpa using h57
     have d57b:decide ((57:Int)<(y.toNat:Int))=false:=decide_eq_false (by omega);have HY:Hid (Lib.decFrom 0 t=Lib.decFrom (10*m+(y.toNat-48)) (t.drop (k+1))):=by unfold Hid;rw[HX.out,HHit.out (by omega) (by omega)]
     have h48':48≤y.toNat:=by omega
     have hw8:IntKind.u8.wrap ((y.toNat:Int)-48)=(y.toNat:Int)-48:=IntWalk.u8_in _ (by omega);have hw1:IntKind.i64.wrap (10*(m:Int))=10*(m:Int):=IntWalk.i64_in _ (by omega);have hw2:IntKind.i64.wrap (10*(m:Int)+((y.toNat:Int)-48))=10*(m:Int)+((y.toNat:Int)-48):=IntWalk.i64_in _ (by omega);go_wp2;go_round
     case rel=>exact⟨k+1,10*m+(y.toNat-48),by omega,by go_num,by go_num,by rw[hps.out];omega,HY⟩
     case measure=>simp[intOf];omega
  ·obtain rfl:k=t.length:=by omega
   have HN:=zh (HR1.out m (by rw[HD.out,List.drop_length];rfl));go_wp2;go_ret2;exact⟨by rw[HN.out.1,HN.out.2];rfl,rfl⟩
theorem T5(t:List UInt8)(w:World)(h45:t.head?≠some 45)(_hs:t.length≤100000)(h:t.length=1) :
 Calls prog 89 #[.string ⟨(t).toArray⟩] w fun e w'=>e=.returned (.tuple #[.int .i64 (Ah (t)),.bool (Aw (t))])∧w=w':=by
 have hR:=J4 h45
 have hd:Gk t=Lib.decFrom 0 t:=by
  rw[Gk,if_neg (by rintro(h1|h1|h1)<;>omega)]
 rw[hd] at hR;have HR0:Hid (Lib.decFrom 0 t=none→Ah (t)=0∧Aw (t)=false):=fun e=>by rw[e] at hR;exact hR
 have HR1:Hid (∀m,Lib.decFrom 0 t=some m→Ah (t)=(m:Int)∧Aw (t)=true):=fun m e=>by rw[e] at hR;exact hR
 clear hR;have hlen:0<t.length:=by omega
 have hget:=Gq t 0 hlen;have h45':t[0].toNat≠45:=fun e=>h45 (by rw[List.head?_eq_getElem?,List.getElem?_eq_getElem hlen];congr 1;exact UInt8.toNat_inj.1 e)
 have h45b:(t[0].toNat==45)=false:=by simpa using h45'
 have h45c:((t[0].toNat:Int)==45)=false:=by simp;omega
 go_enter func89,ntmps89;go_wp2;go_loop [5,6] (fun v i=>∃k m:Nat,k≤t.length∧i=.int .i64 k∧v=.int .i64 m∧m<10^k∧Hid (Lib.decFrom 0 t=Lib.decFrom m (t.drop k))) (fun _ i=>t.length-(intOf i).toNat)
 case atStart=>exact⟨0,0,Nat.zero_le _,rfl,rfl,by simp,rfl⟩
 case round=>
  obtain⟨k,m,hk,rfl,rfl,hm,HD⟩:=hrel
  by_cases hlt:k<t.length
  ·have hgk:=Gq t k hlt
   have hdr:t.drop k=t[k]::t.drop (k+1):=List.drop_eq_getElem_cons hlt;have hp:=Wv (k:=k) (by omega);have hps:Hid (10^(k+1)=10*10^k):=by unfold Hid;rw[Nat.pow_succ];omega
   have hu:t[k].toNat<256:=UInt8.toNat_lt _;have HHit:Hid (48≤t[k].toNat→t[k].toNat≤57→Lib.decFrom m (t[k]::t.drop (k+1))=Lib.decFrom (10*m+(t[k].toNat-48)) (t.drop (k+1))):=Q3 m t[k] _;have HMiss:Hid (¬(48≤t[k].toNat∧t[k].toNat≤57)→Lib.decFrom m (t[k]::t.drop (k+1))=none):=N0 m t[k] _;have HX:Hid (Lib.decFrom 0 t=Lib.decFrom m (t[k]::t.drop (k+1))):=by unfold Hid;rw[HD.out,hdr]
   clear hdr HD;generalize 10^k=P at *;generalize t[k]=y at *
   by_cases h48:y.toNat<48
   ·have d48a:decide (y.toNat<48)=true:=decide_eq_true h48
    have d48b:decide ((y.toNat:Int)<48)=true:=decide_eq_true (by omega);have HN:=zh (HR0.out (by rw[HX.out];exact HMiss.out (by omega)));go_wp2;go_ret2;exact⟨by rw[HN.out.1,HN.out.2];rfl,rfl⟩
   ·have d48:decide (y.toNat<48)=false:=by simpa using h48
    have d48b:decide ((y.toNat:Int)<48)=false:=decide_eq_false (by omega)
    by_cases h57:57<y.toNat
    ·have d57a:decide (57<y.toNat)=true:=decide_eq_true h57
     have d57b:decide ((57:Int)<(y.toNat:Int))=true:=decide_eq_true (by omega);have HN:=zh (HR0.out (by rw[HX.out];exact HMiss.out (by omega)));go_wp2;go_ret2;exact⟨by rw[HN.out.1,HN.out.2];rfl,rfl⟩
    ·have d57:decide (57<y.toNat)=false:=by simpa using h57
     have d57b:decide ((57:Int)<(y.toNat:Int))=false:=decide_eq_false (by omega);have HY:Hid (Lib.decFrom 0 t=Lib.decFrom (10*m+(y.toNat-48)) (t.drop (k+1))):=by unfold Hid;rw[HX.out,HHit.out (by omega) (by omega)]
     have h48':48≤y.toNat:=by omega
     have hw8:IntKind.u8.wrap ((y.toNat:Int)-48)=(y.toNat:Int)-48:=IntWalk.u8_in _ (by omega);have hw1:IntKind.i64.wrap (10*(m:Int))=10*(m:Int):=IntWalk.i64_in _ (by omega);have hw2:IntKind.i64.wrap (10*(m:Int)+((y.toNat:Int)-48))=10*(m:Int)+((y.toNat:Int)-48):=IntWalk.i64_in _ (by omega);go_wp2;go_round
     case rel=>exact⟨k+1,10*m+(y.toNat-48),by omega,by go_num,by go_num,by rw[hps.out];omega,HY⟩
     case measure=>simp[intOf];omega
  ·obtain rfl:k=t.length:=by omega
   have HN:=zh (HR1.out m (by rw[HD.out,List.drop_length];rfl));go_wp2;go_ret2;exact⟨by rw[HN.out.1,HN.out.2];rfl,rfl⟩
theorem Tx(t:List UInt8)(w:World)(_hs:t.length≤100000)(h:t=[]) :
 Calls prog 89 #[.string ⟨(45::t).toArray⟩] w fun e w'=>e=.returned (.tuple #[.int .i64 (Ah (45::t)),.bool (Aw (45::t))])∧w=w':=by
 have hR:=Ht (t:=t);have hne:t≠[48]:=by rw[h];simp
 have hd:Gk t=none:=by rw[h];decide
 rw[if_neg hne,hd] at hR;have HR:Hid (Ah (45::t)=0∧Aw (45::t)=false):=hR;have hb0:(⟨(45::t).toArray⟩:ByteArray)[0]'(by simp[ByteArray.size])=45:=rfl;have hcut:(⟨(45::t).toArray⟩:ByteArray).extract 1 (t.length+1)=⟨t.toArray⟩:=He (45::t) 1;clear hR;subst h;go_enter func89,ntmps89;go_wp2;go_ret2;exact⟨by rw[HR.out.1,HR.out.2];rfl,rfl⟩
theorem Ty(t:List UInt8)(w:World)(hs:t.length≤100000)(h:7<t.length) :
 Calls prog 89 #[.string ⟨(45::t).toArray⟩] w fun e w'=>e=.returned (.tuple #[.int .i64 (Ah (45::t)),.bool (Aw (45::t))])∧w=w':=by
 have hR:=Ht (t:=t);have hne:t≠[48]:=fun e=>by rw[e] at h;simp at h
 have hd:Gk t=none:=by rw[Gk,if_pos (by omega)]
 rw[if_neg hne,hd] at hR;have HR:Hid (Ah (45::t)=0∧Aw (45::t)=false):=hR;have hb0:(⟨(45::t).toArray⟩:ByteArray)[0]'(by simp[ByteArray.size])=45:=rfl;have hcut:(⟨(45::t).toArray⟩:ByteArray).extract 1 (t.length+1)=⟨t.toArray⟩:=He (45::t) 1;clear hR;have hlen:0<t.length:=by omega
 have hget:=Gq t 0 hlen;go_enter func89,ntmps89;go_wp2;go_ret2;exact⟨by rw[HR.out.1,HR.out.2];rfl,rfl⟩
theorem T1(t:List UInt8)(w:World)(_hs:t.length≤100000)(h:1<t.length)(h7:t.length≤7)(hz:t.head?=some 48) :
 Calls prog 89 #[.string ⟨(45::t).toArray⟩] w fun e w'=>e=.returned (.tuple #[.int .i64 (Ah (45::t)),.bool (Aw (45::t))])∧w=w':=by
 have hR:=Ht (t:=t);have hne:t≠[48]:=fun e=>by rw[e] at h;simp at h
 have hd:Gk t=none:=by rw[Gk,if_pos (.inr (.inr ⟨h,hz⟩))]
 rw[if_neg hne,hd] at hR;have HR:Hid (Ah (45::t)=0∧Aw (45::t)=false):=hR;have hb0:(⟨(45::t).toArray⟩:ByteArray)[0]'(by simp[ByteArray.size])=45:=rfl;have hcut:(⟨(45::t).toArray⟩:ByteArray).extract 1 (t.length+1)=⟨t.toArray⟩:=He (45::t) 1;clear hR;have hlen:0<t.length:=by omega
 have hget:=Gq t 0 hlen;have hz0:t[0]=48:=by rw[List.head?_eq_getElem?,List.getElem?_eq_getElem hlen] at hz;exact Option.some.inj hz
 rw[hz0] at hget;have hq1:decide ((t.length:Int)<1)=false:=decide_eq_false (by omega);have hq2:decide ((7:Int)<(t.length:Int))=false:=decide_eq_false (by omega);have hq3:decide ((1:Int)<(t.length:Int))=true:=decide_eq_true (by omega);go_enter func89,ntmps89;go_wp2;go_ret2;exact⟨by rw[HR.out.1,HR.out.2];rfl,rfl⟩
theorem Tz(t:List UInt8)(w:World)(hs:t.length≤100000)(h:1<t.length)(h7:t.length≤7)(hz:t.head?≠some 48) :
 Calls prog 89 #[.string ⟨(45::t).toArray⟩] w fun e w'=>e=.returned (.tuple #[.int .i64 (Ah (45::t)),.bool (Aw (45::t))])∧w=w':=by
 have hR:=Ht (t:=t)
 have hd:Gk t=Lib.decFrom 0 t:=by
  rw[Gk,if_neg (by rintro(h1|h1|h1);omega;omega;exact hz h1.2)]
 have hne:t≠[48]:=fun e=>by rw[e] at h;simp at h
 rw[if_neg hne,hd] at hR;have HR0:Hid (Lib.decFrom 0 t=none→Ah (45::t)=0∧Aw (45::t)=false):=fun e=>by rw[e] at hR;exact hR
 have HR1:Hid (∀m,Lib.decFrom 0 t=some m→Ah (45::t)=-(m:Int)∧Aw (45::t)=true):=fun m e=>by rw[e] at hR;exact hR
 have hb0:(⟨(45::t).toArray⟩:ByteArray)[0]'(by simp[ByteArray.size])=45:=rfl;have hcut:(⟨(45::t).toArray⟩:ByteArray).extract 1 (t.length+1)=⟨t.toArray⟩:=He (45::t) 1;clear hR;have hlen:0<t.length:=by omega
 have hget:=Gq t 0 hlen;have hz0:t[0].toNat≠48:=fun e=>hz (by rw[List.head?_eq_getElem?,List.getElem?_eq_getElem hlen];congr 1;exact UInt8.toNat_inj.1 e)
 have hz1:(t[0].toNat==48)=false:=by simpa using hz0
 have hz2:((t[0].toNat:Int)==48)=false:=by simp;omega
 have hq:(t==[48])=false:=by simpa using hne
 have hq1:decide ((t.length:Int)<1)=false:=decide_eq_false (by omega);have hq2:decide ((7:Int)<(t.length:Int))=false:=decide_eq_false (by omega);have hq3:decide ((1:Int)<(t.length:Int))=true:=decide_eq_true (by omega);go_enter func89,ntmps89;go_wp2;go_loop [5,6] (fun v i=>∃k m:Nat,k≤t.length∧i=.int .i64 k∧v=.int .i64 m∧m<10^k∧Hid (Lib.decFrom 0 t=Lib.decFrom m (t.drop k))) (fun _ i=>t.length-(intOf i).toNat)
 case atStart=>exact⟨0,0,Nat.zero_le _,rfl,rfl,by simp,rfl⟩
 case round=>
  obtain⟨k,m,hk,rfl,rfl,hm,HD⟩:=hrel
  by_cases hlt:k<t.length
  ·have hgk:=Gq t k hlt
   have hdr:t.drop k=t[k]::t.drop (k+1):=List.drop_eq_getElem_cons hlt;have hp:=Wv (k:=k) (by omega);have hps:Hid (10^(k+1)=10*10^k):=by unfold Hid;rw[Nat.pow_succ];omega
   have hu:t[k].toNat<256:=UInt8.toNat_lt _;have HHit:Hid (48≤t[k].toNat→t[k].toNat≤57→Lib.decFrom m (t[k]::t.drop (k+1))=Lib.decFrom (10*m+(t[k].toNat-48)) (t.drop (k+1))):=Q3 m t[k] _;have HMiss:Hid (¬(48≤t[k].toNat∧t[k].toNat≤57)→Lib.decFrom m (t[k]::t.drop (k+1))=none):=N0 m t[k] _;have HX:Hid (Lib.decFrom 0 t=Lib.decFrom m (t[k]::t.drop (k+1))):=by unfold Hid;rw[HD.out,hdr]
   clear hdr HD;generalize 10^k=P at *;generalize t[k]=y at *
   by_cases h48:y.toNat<48
   ·have d48a:decide (y.toNat<48)=true:=decide_eq_true h48
    have d48b:decide ((y.toNat:Int)<48)=true:=decide_eq_true (by omega);have HN:=zh (HR0.out (by rw[HX.out];exact HMiss.out (by omega)));go_wp2;go_ret2;exact⟨by rw[HN.out.1,HN.out.2];rfl,rfl⟩
   ·have d48:decide (y.toNat<48)=false:=by simpa using h48
    have d48b:decide ((y.toNat:Int)<48)=false:=decide_eq_false (by omega)
    by_cases h57:57<y.toNat
    ·have d57a:decide (57<y.toNat)=true:=decide_eq_true h57
     have d57b:decide ((57:Int)<(y.toNat:Int))=true:=decide_eq_true (by omega);have HN:=zh (HR0.out (by rw[HX.out];exact HMiss.out (by omega)));go_wp2;go_ret2;exact⟨by rw[HN.out.1,HN.out.2];rfl,rfl⟩
    ·have d57:decide (57<y.toNat)=false:=by simpa using h57
     have d57b:decide ((57:Int)<(y.toNat:Int))=false:=decide_eq_false (by omega);have HY:Hid (Lib.decFrom 0 t=Lib.decFrom (10*m+(y.toNat-48)) (t.drop (k+1))):=by unfold Hid;rw[HX.out,HHit.out (by omega) (by omega)]
     have h48':48≤y.toNat:=by omega
     have hw8:IntKind.u8.wrap ((y.toNat:Int)-48)=(y.toNat:Int)-48:=IntWalk.u8_in _ (by omega);have hw1:IntKind.i64.wrap (10*(m:Int))=10*(m:Int):=IntWalk.i64_in _ (by omega);have hw2:IntKind.i64.wrap (10*(m:Int)+((y.toNat:Int)-48))=10*(m:Int)+((y.toNat:Int)-48):=IntWalk.i64_in _ (by omega);go_wp2;go_round
     case rel=>exact⟨k+1,10*m+(y.toNat-48),by omega,by go_num,by go_num,by rw[hps.out];omega,HY⟩
     case measure=>simp[intOf];omega
  ·obtain rfl:k=t.length:=by omega
   have HN:=zh (HR1.out m (by rw[HD.out,List.drop_length];rfl));have hmb:m<10000000:=Nat.lt_of_lt_of_le hm (Nat.pow_le_pow_right (n:=10) (by omega) (show t.length≤7 by omega));go_wp2;go_ret2;exact⟨by rw[HN.out.1,HN.out.2];rfl,rfl⟩
theorem T0(t:List UInt8)(w:World)(_hs:t.length≤100000)(h:t.length=1)(hz:t≠[48]) :
 Calls prog 89 #[.string ⟨(45::t).toArray⟩] w fun e w'=>e=.returned (.tuple #[.int .i64 (Ah (45::t)),.bool (Aw (45::t))])∧w=w':=by
 have hR:=Ht (t:=t)
 have hd:Gk t=Lib.decFrom 0 t:=by
  rw[Gk,if_neg (by rintro(h1|h1|h1)<;>omega)]
 have hne:t≠[48]:=hz;rw[if_neg hne,hd] at hR;have HR0:Hid (Lib.decFrom 0 t=none→Ah (45::t)=0∧Aw (45::t)=false):=fun e=>by rw[e] at hR;exact hR
 have HR1:Hid (∀m,Lib.decFrom 0 t=some m→Ah (45::t)=-(m:Int)∧Aw (45::t)=true):=fun m e=>by rw[e] at hR;exact hR
 have hb0:(⟨(45::t).toArray⟩:ByteArray)[0]'(by simp[ByteArray.size])=45:=rfl;have hcut:(⟨(45::t).toArray⟩:ByteArray).extract 1 (t.length+1)=⟨t.toArray⟩:=He (45::t) 1;clear hR;rw[h] at hcut;have hlen:0<t.length:=by omega
 have hget:=Gq t 0 hlen;have hq:(t==[48])=false:=by simpa using hz
 go_enter func89,ntmps89;go_wp2;go_loop [5,6] (fun v i=>∃k m:Nat,k≤t.length∧i=.int .i64 k∧v=.int .i64 m∧m<10^k∧Hid (Lib.decFrom 0 t=Lib.decFrom m (t.drop k))) (fun _ i=>t.length-(intOf i).toNat)
 case atStart=>exact⟨0,0,Nat.zero_le _,rfl,rfl,by simp,rfl⟩
 case round=>
  obtain⟨k,m,hk,rfl,rfl,hm,HD⟩:=hrel
  by_cases hlt:k<t.length
  ·have hgk:=Gq t k hlt
   have hdr:t.drop k=t[k]::t.drop (k+1):=List.drop_eq_getElem_cons hlt;have hp:=Wv (k:=k) (by omega);have hps:Hid (10^(k+1)=10*10^k):=by unfold Hid;rw[Nat.pow_succ];omega
   have hu:t[k].toNat<256:=UInt8.toNat_lt _;have HHit:Hid (48≤t[k].toNat→t[k].toNat≤57→Lib.decFrom m (t[k]::t.drop (k+1))=Lib.decFrom (10*m+(t[k].toNat-48)) (t.drop (k+1))):=Q3 m t[k] _;have HMiss:Hid (¬(48≤t[k].toNat∧t[k].toNat≤57)→Lib.decFrom m (t[k]::t.drop (k+1))=none):=N0 m t[k] _;have HX:Hid (Lib.decFrom 0 t=Lib.decFrom m (t[k]::t.drop (k+1))):=by unfold Hid;rw[HD.out,hdr]
   clear hdr HD;generalize 10^k=P at *;generalize t[k]=y at *
   by_cases h48:y.toNat<48
   ·have d48a:decide (y.toNat<48)=true:=decide_eq_true h48
    have d48b:decide ((y.toNat:Int)<48)=true:=decide_eq_true (by omega);have HN:=zh (HR0.out (by rw[HX.out];exact HMiss.out (by omega)));go_wp2;go_ret2;exact⟨by rw[HN.out.1,HN.out.2];rfl,rfl⟩
   ·have d48:decide (y.toNat<48)=false:=by simpa using h48
    have d48b:decide ((y.toNat:Int)<48)=false:=decide_eq_false (by omega)
    by_cases h57:57<y.toNat
    ·have d57a:decide (57<y.toNat)=true:=decide_eq_true h57
     have d57b:decide ((57:Int)<(y.toNat:Int))=true:=decide_eq_true (by omega);have HN:=zh (HR0.out (by rw[HX.out];exact HMiss.out (by omega)));go_wp2;go_ret2;exact⟨by rw[HN.out.1,HN.out.2];rfl,rfl⟩
    ·have d57:decide (57<y.toNat)=false:=by simpa using h57
     have d57b:decide ((57:Int)<(y.toNat:Int))=false:=decide_eq_false (by omega);have HY:Hid (Lib.decFrom 0 t=Lib.decFrom (10*m+(y.toNat-48)) (t.drop (k+1))):=by unfold Hid;rw[HX.out,HHit.out (by omega) (by omega)]
     have h48':48≤y.toNat:=by omega
     have hw8:IntKind.u8.wrap ((y.toNat:Int)-48)=(y.toNat:Int)-48:=IntWalk.u8_in _ (by omega);have hw1:IntKind.i64.wrap (10*(m:Int))=10*(m:Int):=IntWalk.i64_in _ (by omega);have hw2:IntKind.i64.wrap (10*(m:Int)+((y.toNat:Int)-48))=10*(m:Int)+((y.toNat:Int)-48):=IntWalk.i64_in _ (by omega);go_wp2;go_round
     case rel=>exact⟨k+1,10*m+(y.toNat-48),by omega,by go_num,by go_num,by rw[hps.out];omega,HY⟩
     case measure=>simp[intOf];omega
  ·obtain rfl:k=t.length:=by omega
   have HN:=zh (HR1.out m (by rw[HD.out,List.drop_length];rfl));have hmb:m<10000000:=Nat.lt_of_lt_of_le hm (Nat.pow_le_pow_right (n:=10) (by omega) (show t.length≤7 by omega));go_wp2;go_ret2;exact⟨by rw[HN.out.1,HN.out.2];rfl,rfl⟩
theorem Tw(t:List UInt8)(w:World)(_hs:t.length≤100000)(h:t=[48]) :
 Calls prog 89 #[.string ⟨(45::t).toArray⟩] w fun e w'=>e=.returned (.tuple #[.int .i64 (Ah (45::t)),.bool (Aw (45::t))])∧w=w':=by
 have hR:=Ht (t:=t);rw[if_pos h] at hR;have HR:Hid (Ah (45::t)=0∧Aw (45::t)=false):=hR;have hb0:(⟨(45::t).toArray⟩:ByteArray)[0]'(by simp[ByteArray.size])=45:=rfl;have hcut:(⟨(45::t).toArray⟩:ByteArray).extract 1 (t.length+1)=⟨t.toArray⟩:=He (45::t) 1;clear hR;have hcut':(⟨#[45,48]⟩:ByteArray).extract 1 2=⟨#[48]⟩:=He [45,48] 1;subst h;go_enter func89,ntmps89;go_wp2;go_ret2;exact⟨by rw[HR.out.1,HR.out.2];rfl,rfl⟩
theorem D8(s:List UInt8)(w:World)(hs:s.length≤100000) :
 Calls prog 89 #[.string ⟨s.toArray⟩] w fun e w'=>e=.returned (.tuple #[.int .i64 (Ah s),.bool (Aw s)])∧w=w':=by
 by_cases h45:s.head?=some 45
 ·obtain⟨t,rfl⟩:∃t,s=45::t:=by
   cases s with
   | nil=>cases h45
   | cons y r=>cases h45;exact⟨r,rfl⟩
  have hs':t.length≤100000:=by simp at hs;omega
  by_cases h0:t.length=0
  ·exact Tx t w hs' (List.eq_nil_of_length_eq_zero h0)
  ·by_cases h1:7<t.length
   ·exact Ty t w hs' h1
   ·by_cases h2:1<t.length
    ·by_cases hz:t.head?=some 48
     ·exact T1 t w hs' h2 (by omega) hz
     ·exact Tz t w hs' h2 (by omega) hz
    ·by_cases hz:t=[48]
     ·exact Tw t w hs' hz
     ·exact T0 t w hs' (by omega) hz
 ·by_cases h0:s.length=0
  ·exact T2 s w h45 hs (List.eq_nil_of_length_eq_zero h0)
  ·by_cases h1:7<s.length
   ·exact T3 s w h45 hs h1
   ·by_cases h2:1<s.length
    ·by_cases hz:s.head?=some 48
     ·exact T6 s w h45 hs h2 (by omega) hz
     ·exact T4 s w h45 hs h2 (by omega) hz
    ·exact T5 s w h45 hs (by omega)
end Go.Proofs.YtppfkokfnoeopaaGreatDoor
