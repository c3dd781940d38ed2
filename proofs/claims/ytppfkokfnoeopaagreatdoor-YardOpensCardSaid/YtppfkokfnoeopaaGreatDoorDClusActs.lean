/- A part of a proof. -/
import Derived.Test.YtppfkokfnoeopaaGreatDoorDClusRun
import Derived.Test.YtppfkokfnoeopaaGreatDoorDRefSlot
import Derived.Test.YtppfkokfnoeopaaGreatDoorDRefNew
namespace Go.Proofs.YtppfkokfnoeopaaGreatDoor
open Go.RowKit Go.Maps
theorem Fresh.base{w0 w W:World}{L:CL}(hL:Fresh w0.heap.size L)(hb:Below w0.heap.size w0 w)(hf:Fr L.own w W):Below w0.heap.size w0 W:=hf.base hb (fun k hk=>by
 rcases hk with rfl|rfl|rfl
 ·exact hL.cb
 ·exact hL.bb
 ·exact hL.mb)
theorem Fresh.mono{b b':Nat}{L:CL}(h:Fresh b L)(hb:b'≤b):Fresh b' L:=⟨Nat.le_trans hb h.cb,Nat.le_trans hb h.bb,Nat.le_trans hb h.mb⟩
theorem own_apart{w:World}{L:CL}{R:RL}{rs:List RN}{c c':CP}(h:ClusAt w L c)(hr:RefAt w R rs c'):∀k,R.own k→¬L.own k∧k≠L.mm:=by
 intro k hk;obtain⟨cur,hn⟩:=hr.nblk
 have hcell:∃cs t,w.heap[k]?=some (.cells cs t (0,0))∧(t=94∨t=99):=by
  rcases hk with rfl|rfl
  ·exact⟨_,_,hr.blk,Or.inl rfl⟩
  ·exact⟨_,_,hn,Or.inr rfl⟩
 obtain⟨cs,t,e,ht⟩:=hcell;obtain⟨a1,_,a3,⟨q,_,a4⟩,_⟩:=h;obtain⟨es,clock,hm⟩:=a4.map;obtain⟨es2,clock2,hm2⟩:=a3.2.2.map;refine⟨fun ho=>?_,fun ho=>?_⟩
 ·rcases ho with rfl|rfl|rfl
  ·rw[a1] at e;injection e with e;injection e with _ e;rw[←e] at ht;revert ht;decide
  ·rw[a3.1] at e;injection e with e;injection e with _ e;rw[←e] at ht;revert ht;decide
  ·rw[hm] at e;injection e with e;cases e
 ·subst ho;rw[hm2] at e;injection e with e;cases e
theorem ClusAt.aref{w w':World}{L:CL}{R:RL}{rs:List RN}{c c':CP}(h:ClusAt w L c)(hr:RefAt w R rs c')(hf:Fr R.own w w'):ClusAt w' L c:=
 h.kept hf (fun k hk hs=>(own_apart h hr k hs).1 hk) (fun hs=>(own_apart h hr _ hs).2 rfl) (fun k cur t hk ht hs=>by
  obtain⟨cur2,hn⟩:=hr.nblk
  rcases hs with rfl|rfl
  ·rw[show w.heap[R.cb]?=_ from hr.blk] at hk;injection hk with hk;injection hk with _ e;rw[←e] at ht;revert ht;decide
  ·rw[show w.heap[R.nb]?=_ from hn] at hk;injection hk with hk;injection hk with _ e;rw[←e] at ht;revert ht;decide)
theorem RefAt.aclus{w w':World}{L:CL}{R:RL}{rs:List RN}{c c':CP}(hr:RefAt w R rs c')(h:ClusAt w L c)(far:∀b off,R.pa=some ⟨b,off,none⟩→¬L.own b)(hf:Fr L.own w w'):RefAt w' R rs c':=
 hr.kept hf (own_apart h hr _ (Or.inl rfl)).1 (own_apart h hr _ (Or.inr rfl)).1 far (fun k cur hk=>h.rows k cur _ hk (Or.inr rfl))
def EnvB(ea:Nat→Addr)(base:Nat)(w:World):Prop:=∀W,Below base w W→GlobC W ea∧TxtEnv W
theorem EnvB.later{ea:Nat→Addr}{base:Nat}{w w':World}(h:EnvB ea base w)(hb:Below base w w'):EnvB ea base w':=fun W hW=>h W (hb.trans hW)
theorem EnvB.now{ea:Nat→Addr}{base:Nat}{w:World}(h:EnvB ea base w):GlobC w ea∧TxtEnv w:=h w (Below.refl _ _)
theorem EnvB.of{ea:Nat→Addr}{base:Nat}{w0 w:World}(hG:GlobC w0 ea)(hT:TxtEnv w0)(hb:Below w0.heap.size w0 w)(hB:w0.heap.size≤base):EnvB ea base w:=
 fun _ hW=>⟨hG.below (hb.trans (hW.mono hB)),hT.below (hb.trans (hW.mono hB))⟩
theorem Fresh.own{b:Nat}{L:CL}(h:Fresh b L):∀k,L.own k→b≤k:=fun k hk=>by
 rcases hk with rfl|rfl|rfl
 ·exact h.cb
 ·exact h.bb
 ·exact h.mb
theorem EnvB.clus{ea:Nat→Addr}{base:Nat}{w:World}{L:CL}(h:EnvB ea base w)(hb:base≤w.heap.size)(hL:Fresh base L):EnvC ea L w:=fun W hW=>
 have h1:=h W (hW.below hb hL.own)
 ⟨h1.1.glob,h1.2⟩
structure BothAt(w:World)(base:Nat)(L:CL)(R:RL)(c:CP):Prop where
 clus:ClusAt w L c
 ref:∃rs,RefAt w R rs c
 inv:InvP c
 lowc:Fresh base L
 lowr:base≤R.cb∧base≤R.nb
 far:∀b off,R.pa=some ⟨b,off,none⟩→¬L.own b
theorem BothAt.below{w w':World}{base:Nat}{L:CL}{R:RL}{c:CP}(h:BothAt w base L R c)(hb:Below w.heap.size w w'):BothAt w' base L R c:=by
 obtain⟨rs,hr⟩:=h.ref;exact⟨h.clus.below hb,⟨rs,hr.below hb⟩,h.inv,h.lowc,h.lowr,h.far⟩
theorem BothAt.lowo{w:World}{base:Nat}{L:CL}{R:RL}{c:CP}(h:BothAt w base L R c):∀k,R.own k→base≤k:=fun k hk=>by
 rcases hk with rfl|rfl
 ·exact h.lowr.1
 ·exact h.lowr.2
theorem BothAt.size{w:World}{base:Nat}{L:CL}{R:RL}{c:CP}(h:BothAt w base L R c):base≤w.heap.size:=by
 obtain⟨rs,hr⟩:=h.ref;have:=hr.lt.1;have:=h.lowr.1;omega
theorem BothAt.step{w w1 w2:World}{base:Nat}{L:CL}{R:RL}{c c1:CP}(h:BothAt w base L R c)(hI:InvP c1)(hC:ClusAt w1 L c1)(hF:Fr L.own w w1)(hR:∃rs,RefAt w2 R rs c1)(hF2:Fr R.own w1 w2):BothAt w2 base L R c1∧Below base w w2:=by
 obtain⟨rs,hr⟩:=h.ref;have hr1:=hr.aclus h.clus h.far hF;have hb1:=hF.below h.size h.lowc.own;exact⟨⟨hC.aref hr1 hF2,hR,hI,h.lowc,h.lowr,h.far⟩,hb1.trans (hF2.below (Nat.le_trans h.size hF.size) h.lowo)⟩
theorem RowAt.low{w w':World}{base:Nat}{a:Option Addr}{lost:List Int}(h:RowAt w a (encInts lost))(hb:Below base w w')(hl:lost≠[]→∀b off,a=some ⟨b,off,none⟩→b<base):RowAt w' a (encInts lost):=by
 by_cases h0:lost=[]
 ·exact Or.inl (by rw[h0];rfl)
 ·exact h.off (Fr.at hb) (fun b off e _ hs=>by have:=hl h0 b off e;omega)
theorem run_vw_neq(W:World)(a b c:Int):(binOp .neq 96 (.agg #[.int .i64 a,.int .i64 b,.int .i64 c]) (.agg #[.int .i64 a,.int .i64 b,.int .i64 c])).run Tryz.prog W=.ok (.bool false) W:=by
 have h1:(a==a)=true:=by simp
 have h2:(b==b)=true:=by simp
 have h3:(c==c)=true:=by simp
 go_simp
theorem on_hist{c:CP}(hI:InvP c)(i:Int):(c.on i).1.h.length≤200∧(c.on i).2≤11:=by
 have ht:=hI.time
 cases hf:c.f i with
 | none=>have e:c.on i=(NP0,4):=by unfold CP.on;rw[hf]
         rw[e];exact⟨Nat.zero_le _,by decide⟩
 | some x=>
  by_cases h2:x.st=2
  ·have e:c.on i=(x,0):=by unfold CP.on;rw[hf];exact if_pos h2
   have h3:=((hI.node i x hf).on h2).2.2.2.2.1;rw[e];exact⟨by dsimp only;omega,Nat.zero_le _⟩
  ·have e:c.on i=(NP0,11):=by unfold CP.on;rw[hf];exact if_neg h2
   rw[e];exact⟨Nat.zero_le _,Nat.le_refl _⟩
theorem int_wfC{n:Int}(h : -9223372036854775808≤n∧n≤9223372036854775807):(Lit.int .i64 n).wf=true:=by
 have h1:IntKind.i64.min=-9223372036854775808:=by decide +kernel
 have h2:IntKind.i64.max=9223372036854775807:=by decide +kernel
 simp only[Lit.wf,Bool.and_eq_true,decide_eq_true_eq,h1,h2];exact h
set_option maxRecDepth 200000 in
set_option maxHeartbeats 6400000 in
theorem sameClus_any(ea:Nat→Addr)(base:Nat)(L:CL)(R:RL)(c:CP)(w:World)(hE:EnvB ea base w)(h:BothAt w base L R c) :
 Calls Tryz.prog 17 #[.pointer (some ⟨L.cb,0,none⟩),.pointer (some ⟨R.cb,0,none⟩)] w fun e w'=>e=.returned (.bool true)∧Below w.heap.size w w':=by
 obtain⟨rs,hr⟩:=h.ref;have hI:=h.inv;have hcl:=h.clus;have hbs:=h.size;have hst:∀i x,c.f i=some x→x.st=0∨x.st=1∨x.st=2:=fun i x hf=>(hI.node i x hf).st
 have KT:=Lib.hid (fun(W:World) (hb:Below w.heap.size w W)=>cTime_any L c W (hcl.below hb));have KC:=Lib.hid (fun(W:World) (hb:Below w.heap.size w W)=>cCrew_any ea L c W (((hE W (hb.mono hbs)).1.glob).sub (by simp)) (hcl.below hb) hI.dom (planF_ok hI.plan).2.2.2);have KRC:=Lib.hid (fun(W:World) (hb:Below w.heap.size w W)=>rCrew_any R rs c W (hr.below hb) hI.dom (planF_ok hI.plan).2.2.2);have KV:=Lib.hid (fun(W:World) (j:Int) (hb:Below w.heap.size w W) (hj:(Lit.int .i64 j).wf=true)=>cView_any ea L c j W (((hE W (hb.mono hbs)).1.glob).sub (by simp)) (hcl.below hb) hj);have KH:=Lib.hid (fun(W:World) (j:Int) (hb:Below w.heap.size w W) (hj:(Lit.int .i64 j).wf=true)=>cHist_any ea L c j W (((hE W (hb.mono hbs)).1.glob).sub (by simp)) (hcl.below hb) hj (by have:=(on_hist hI j).1;omega));have KA:=Lib.hid (fun(W:World) (j:Int) (hb:Below w.heap.size w W)=>rActive_any R rs c j W (hr.below hb) hst);have KS:=Lib.hid (fun(W:World) (j:Int) (hb:Below w.heap.size w W) (hj:(Lit.int .i64 j).wf=true)=>cState_any L c j W (hcl.below hb) hj (fun x hf=>hst j x hf));have KRS:=Lib.hid (fun(W:World) (j:Int) (hb:Below w.heap.size w W)=>rState_any R rs c j W (hr.below hb) hst);have KD:=Lib.hid (fun(W:World) (k:Nat) (hb:Below w.heap.size w W) (hk:k≤11)=>coded3_yes ea (errV ea k) k (k:Nat) W (hE W (hb.mono hbs)).1 (ErrIs.bare ea W k) hk rfl);have HON:=Lib.hid (fun j=>on_hist hI j);have cc1:=hr.cells.2.1;have hlr:=hr.lt.1;have tq:((c.time:Int) != (c.time:Int))=false:=by simp
 have uq:((c.crewN:Int) != (c.crewN:Int))=false:=by simp
 have hD1:Below w.heap.size w w.drew:=below_drewN (Below.refl _ _) 1;have A1:=Lib.hid (KT.out w.drew hD1);have A2:=Lib.hid (KC.out w.drew hD1);have HD1:=Lib.hid hD1;clear hE h hr hI hcl hst hD1;generalize (c.time:Int)=tm at *;generalize ((c.crewN:Nat):Int)=cn at *;go_enter Tryz.func17,Tryz.ntmps17;go_wp2
 go_region_held3 (fun w'=>w'.cell? ⟨R.cb,1,none⟩=some (.int .i64 tm)) (go_keep)
  (first
   | (go_at_call 47;(with_reducible refine A1.out.mono ?_);rintro e w4⟨rfl,rfl⟩)
   | (go_at_call 56;(with_reducible refine A2.out.mono ?_);rintro e w5⟨rfl,hb5⟩;have hv5:=onto HD1.out hb5;have kk:w5.cell? ⟨R.cb,1,none⟩=some (.int .i64 tm):=(Below.cell hv5 (p:=⟨R.cb,1,none⟩) hlr).trans cc1;have A3:=Lib.hid (KRC.out w5 hv5))
   | (go_at_call 57;(with_reducible refine A3.out.mono ?_);rintro e w6⟨rfl,hb6⟩;have hv6:=onto hv5 hb6;have kk:w6.cell? ⟨R.cb,1,none⟩=some (.int .i64 tm):=(Below.cell hv6 (p:=⟨R.cb,1,none⟩) hlr).trans cc1))
 have HV6:=Lib.hid hv6;clear kk A1 A2 A3 hb5 hv5 hb6 hv6 cc1 tq uq KT KC KRC HD1;go_wp2;go_loopw [5] (fun i wr=>∃k:Nat,k≤19∧i=.int .i64 ((k:Int)-1)∧Hid (Below w.heap.size w wr)) (fun i _=>19-(intOf i+1).toNat)
 case atStart=>exact⟨0,by omega,rfl,HV6⟩
 case round=>
  obtain⟨k,hk,rfl,HB⟩:=hrel;clear HV6
  by_cases hlt:k<19
  ·obtain⟨j,hj⟩:∃j:Int,j=(k:Int)-1:=⟨_,rfl⟩
   rw[←hj];have hjw:(Lit.int .i64 j).wf=true:=int_wfC (by omega);have dj:decide (j≤17)=true:=decide_eq_true (by omega);have hj1 : -1≤j∧j≤17:=by omega
   have KVj:=Lib.hid (fun(W:World) (hb:Below w.heap.size w W)=>KV.out W j hb hjw);have KHj:=Lib.hid (fun(W:World) (hb:Below w.heap.size w W)=>KH.out W j hb hjw);have KAj:Hid (∀W:World,Below w.heap.size w W→Calls Tryz.prog 60 #[.pointer (some ⟨R.cb,0,none⟩),.int .i64 j] W fun e w'=>∃(i:Int) (la:Option Addr) (lc:Nat),e=.returned (.tuple #[.agg #[.int .i64 i,.int .i64 (c.on j).1.st,.int .i64 (c.on j).1.val,.int .i64 (c.on j).1.m,.int .i64 (c.on j).1.d,.int .i64 (c.on j).1.s,.slice la (c.on j).1.h.length lc],.int .i64 (c.on j).2])∧RowAt w' la (encEnts (c.on j).1.h)∧Below W.heap.size W w'):=fun W hb=>KA.out W j hb
   have KSj:=Lib.hid (fun(W:World) (hb:Below w.heap.size w W)=>KS.out W j hb hjw);have KRSj:=Lib.hid (fun(W:World) (hb:Below w.heap.size w W)=>KRS.out W j hb);obtain⟨hh,hq⟩:=HON.out j;have HH:=Lib.hid hh;have KDj:=Lib.hid (fun(W:World) (hb:Below w.heap.size w W)=>KD.out W (c.on j).2 hb hq);have HJ:=Lib.hid hj;clear hq hj hjw;generalize c.stT j=sj at *;generalize (c.on j).1.h=hs at *;generalize (c.on j).1.m=vm at *;generalize (c.on j).1.d=vd at *;generalize (c.on j).1.s=vs at *;generalize (c.on j).1.st=v1 at *;generalize (c.on j).1.val=v2 at *;generalize errV ea (c.on j).2=ev at *;generalize ((c.on j).2:Int)=ci at *;have KE:=Lib.hid (fun(W:World) (a a2:Option Addr) (cp cp2:Nat) (hr:RowAt W a (encEnts hs)) (hr2:RowAt W a2 (encEnts hs))=>sameEnts_any a a2 hs.length cp hs.length cp2 hs hs W rfl hr rfl hr2 (by omega));simp only[decide_true] at KE;have hne:=fun W=>run_vw_neq W vm vd vs
   have hse:(sj==sj)=true:=by simp
   have K1:=Lib.hid (KVj.out wr HB.out);go_wp2_with fail;refine K1.out.mono ?_;rintro e w1⟨rfl,hb1⟩;have hv1:=(onto HB.out hb1).alloc (onto HB.out hb1).size (.cells #[.int .i64 vm,.int .i64 vd,.int .i64 vs] 96);have b1:=Blok.new w1 96 #[.int .i64 vm,.int .i64 vd,.int .i64 vs];have K2:=Lib.hid (KHj.out _ hv1);clear K1 hb1;go_wp2_with fail;refine K2.out.mono ?_;rintro e w2⟨a2,cp2,rfl,hrow2,hcp2,hb2⟩;have hv2:=onto hv1 hb2;have b2:=b1.kept hb2;have K3:=Lib.hid (KAj.out w2 hv2);clear K2 b1 hv1 hcp2;go_wp2_with fail;refine K3.out.mono ?_;rintro e w3⟨i3,a3,cp3,rfl,hrow3,hb3⟩;have hv3:=(onto hv2 hb3).alloc (onto hv2 hb3).size (.cells #[.int .i64 i3,.int .i64 v1,.int .i64 v2,.int .i64 vm,.int .i64 vd,.int .i64 vs,.slice a3 hs.length cp3] 99);have hA3:Below w3.heap.size w3 (w3.alloc (.cells #[.int .i64 i3,.int .i64 v1,.int .i64 v2,.int .i64 vm,.int .i64 vd,.int .i64 vs,.slice a3 hs.length cp3] 99)):=(Below.refl _ _).alloc (Nat.le_refl _) _;have b3:=(b2.kept hb3).kept hA3;have r2:=(hrow2.below hb3).below hA3;have r3:=hrow3.below hA3;have d3:=Blok.new w3 99 #[.int .i64 i3,.int .i64 v1,.int .i64 v2,.int .i64 vm,.int .i64 vd,.int .i64 vs,.slice a3 hs.length cp3];have K4:=Lib.hid (KSj.out _ hv3);clear K3 b2 hv2 hrow2 hrow3;go_wp2_with fail;generalize hW4:w3.alloc (.cells #[.int .i64 i3,.int .i64 v1,.int .i64 v2,.int .i64 vm,.int .i64 vd,.int .i64 vs,.slice a3 hs.length cp3] 99)=W4 at *;clear hW4 hA3;refine K4.out.mono ?_;rintro e w5⟨rfl,hb5⟩;have hv5:=onto hv3 hb5;have K5:=Lib.hid (KRSj.out _ hv5);go_wp2_with fail;refine K5.out.mono ?_;rintro e w6⟨rfl,hb6⟩;have hv6:=onto hv5 hb6;have K6:=Lib.hid (KDj.out _ hv6);go_wp2_with fail;refine K6.out.mono ?_;rintro e w7⟨rfl,hb7⟩;have hv7:=onto hv6 hb7;have K7:=Lib.hid (KDj.out _ hv7);go_wp2_with fail;refine K7.out.mono ?_;rintro e w8⟨rfl,hb8⟩;have hv8:=onto hv7 hb8;have b8:=(((b3.kept hb5).kept hb6).kept hb7).kept hb8;have d8:=(((d3.kept hb5).kept hb6).kept hb7).kept hb8;have r28:=(((r2.below hb5).below hb6).below hb7).below hb8;have r38:=(((r3.below hb5).below hb6).below hb7).below hb8;have x0:=b8.cell 0 rfl;have x1:=b8.cell 1 rfl;have x2:=b8.cell 2 rfl;have y3:=d8.cell 3 rfl;have y4:=d8.cell 4 rfl;have y5:=d8.cell 5 rfl;have y6:=d8.cell 6 rfl;have K8:=Lib.hid (KE.out _ _ _ cp2 cp3 r28 r38);clear K4 K5 K6 K7 b3 d3 r2 r3 hb5 hb6 hb7 hb8 hv3 hv5 hv6 hv7 b8 d8 r28 r38;go_wp2_with fail;refine K8.out.mono ?_;rintro e w9⟨rfl,hb9⟩;have HV9:=Lib.hid (onto hv8 hb9);go_wp2;go_roundw
   case rel=>exact⟨k+1,by omega,by rw[show j+1=((k+1:Nat):Int)-1 by have:=HJ.out;omega],HV9⟩
   case measure=>simp[intOf];omega
  ·obtain rfl:k=19:=by omega
   go_wp2;go_ret;exact⟨rfl,HB.out⟩
end Go.Proofs.YtppfkokfnoeopaaGreatDoor
