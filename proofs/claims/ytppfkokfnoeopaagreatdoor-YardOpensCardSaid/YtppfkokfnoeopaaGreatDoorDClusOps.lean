/- A part of a proof. -/
import Derived.Deep.RegionHeld3
import Derived.Deep.AppendLies
import Derived.RegionTactic
import Derived.Test.YtppfkokfnoeopaaGreatDoorDClusMap
import Derived.Test.YtppfkokfnoeopaaGreatDoorDMode
namespace Go.Proofs.YtppfkokfnoeopaaGreatDoor
open Go.RowKit Go.Maps
def allPairs:List (Int×Int):=(List.range 16).map fun k=>(((k/4:Nat):Int),((k%4:Nat):Int))
theorem allPairs_ok:∀p∈allPairs,pairB p=true:=by decide
theorem mem_allPairs{a b:Int}(ha:0≤a∧a≤3)(hb:0≤b∧b≤3):(a,b)∈allPairs:=by
 have h1:a=0∨a=1∨a=2∨a=3:=by omega
 have h2:b=0∨b=1∨b=2∨b=3:=by omega
 rcases h1 with rfl|rfl|rfl|rfl<;>rcases h2 with rfl|rfl|rfl|rfl<;>decide
structure CL where
 cb:Nat
 bb:Nat
 mb:Nat
 mm:Nat
 pa:Option Addr
 pc:Nat
def CL.own(L:CL):Nat→Prop:=fun k=>k=L.cb∨k=L.bb∨k=L.mb
structure ClusAt(w:World)(L:CL)(c:CP):Prop where
 blk:w.heap[L.cb]?=some (.cells #[.slice L.pa c.plan.length L.pc,.int .i64 c.time,.pointer (some ⟨L.bb,0,none⟩),.map (some L.mb)] 141 (0,0))
 plan:w.ownsRow 0 3 1 (.slice L.pa c.plan.length L.pc) c.plan.length (encInts c.plan)
 board:BoardM w L.bb L.mm allPairs c.now c.asked
 nodes:∃q,q≤100∧NodesP w L.mb c.f q
 ne:L.mb≠L.mm
theorem PairMap.map{w:World}{mb:Nat}{l:List (Int×Int)}(h:PairMap w mb l):∃es clock,w.heap[mb]?=some (.map es clock):=by
 obtain⟨n,_,⟨es,clock,hb,_⟩⟩:=h;exact⟨es,clock,hb⟩
theorem PairMap.fr{S:Nat→Prop}{w w':World}{mb:Nat}{l:List (Int×Int)}(h:PairMap w mb l)(hf:Fr S w w')(hS:¬S mb):PairMap w' mb l:=by
 obtain⟨n,h0,⟨es,clock,hb,h1⟩⟩:=h;exact⟨n,h0,⟨es,clock,(hf.block mb (Array.getElem?_eq_some_iff.1 hb).1 hS).trans hb,h1⟩⟩
theorem BoardM.fr{S:Nat→Prop}{w w':World}{b mb:Nat}{l:List (Int×Int)}{now asked:Int}(h:BoardM w b mb l now asked)(hf:Fr S w w')(h1:¬S b)(h2:¬S mb):BoardM w' b mb l now asked:=
 ⟨(hf.block b (Array.getElem?_eq_some_iff.1 h.1).1 h1).trans h.1,h.2.1,h.2.2.fr hf h2⟩
theorem ClusAt.kept{S:Nat→Prop}{w w':World}{L:CL}{c:CP}(h:ClusAt w L c)(hf:Fr S w w')(h1:∀k,L.own k→¬S k)(h2:¬S L.mm)(h3:∀k cur t,w.heap[k]?=some (.cells cur t (0,0))→t=3∨t=146→¬S k):ClusAt w' L c:=by
 obtain⟨a1,a2,a3,⟨q,hq,a4⟩,a6⟩:=h;exact⟨(hf.block L.cb (Array.getElem?_eq_some_iff.1 a1).1 (h1 _ (Or.inl rfl))).trans a1,ownsRow_fr a2 hf (fun k cur hk=>h3 k cur _ hk (Or.inl rfl)),a3.fr hf (h1 _ (Or.inr (Or.inl rfl))) h2,⟨q,hq,a4.fr hf (h1 _ (Or.inr (Or.inr rfl))) (fun k cur hk=>h3 k cur _ hk (Or.inr rfl))⟩,a6⟩
theorem ClusAt.below{w w':World}{L:CL}{c:CP}(h:ClusAt w L c)(hb:Below w.heap.size w w'):ClusAt w' L c:=
 h.kept (S:=fun _=>False) (Fr.of hb) (fun _ _ h=>h) (fun h=>h) (fun _ _ _ _ _ h=>h)
theorem ClusAt.drewN{w:World}{L:CL}{c:CP}(h:ClusAt w L c)(n:Nat):ClusAt (w.drewN n) L c:=h.below (below_drewN (Below.refl _ _) n)
theorem ClusAt.apart{w:World}{L:CL}{c:CP}(h:ClusAt w L c):L.bb≠L.cb∧L.mb≠L.cb∧L.mb≠L.bb∧L.mm≠L.cb∧L.mm≠L.bb∧L.mb≠L.mm:=by
 obtain⟨a1,_,a3,⟨q,_,a4⟩,a6⟩:=h;obtain⟨es,clock,hm⟩:=a4.map;obtain⟨es2,clock2,hm2⟩:=a3.2.2.map;refine⟨fun e=>?_,fun e=>?_,fun e=>?_,fun e=>?_,a3.2.1,a6⟩
 ·rw[←e,a3.1] at a1;injection a1 with a1;injection a1 with _ e2;revert e2;decide
 ·rw[←e,hm] at a1;cases a1
 ·rw[e,a3.1] at hm;cases hm
 ·rw[←e,hm2] at a1;cases a1
theorem ClusAt.lt{w:World}{L:CL}{c:CP}(h:ClusAt w L c):L.cb<w.heap.size∧L.bb<w.heap.size∧L.mb<w.heap.size∧L.mm<w.heap.size:=by
 obtain⟨a1,_,a3,⟨q,_,a4⟩,a6⟩:=h;exact⟨(Array.getElem?_eq_some_iff.1 a1).1,(Array.getElem?_eq_some_iff.1 a3.1).1,a4.lt,a3.2.2.lt⟩
theorem ClusAt.rows{w:World}{L:CL}{c:CP}(h:ClusAt w L c):∀k cur t,w.heap[k]?=some (.cells cur t (0,0))→t=3∨t=146→¬L.own k:=by
 intro k cur t hk ht ho;obtain⟨a1,_,a3,⟨q,_,a4⟩,_⟩:=h
 rcases ho with rfl|rfl|rfl
 ·rw[a1] at hk;injection hk with hk;injection hk with _ e;rw[←e] at ht;revert ht;decide
 ·rw[a3.1] at hk;injection hk with hk;injection hk with _ e;rw[←e] at ht;revert ht;decide
 ·obtain⟨es,clock,hm⟩:=a4.map
  rw[hm] at hk;cases hk
theorem ClusAt.row{w:World}{L:CL}{c:CP}(h:ClusAt w L c):RowAt w L.pa (encInts c.plan):=ownsRow_at h.plan
theorem ClusAt.cells{w:World}{L:CL}{c:CP}(h:ClusAt w L c):w.cell? ⟨L.cb,0,none⟩=some (.slice L.pa c.plan.length L.pc)∧w.cell? ⟨L.cb,1,none⟩=some (.int .i64 c.time)∧w.cell? ⟨L.cb,2,none⟩=some (.pointer (some ⟨L.bb,0,none⟩))∧w.cell? ⟨L.cb,3,none⟩=some (.map (some L.mb)):=
 ⟨cell_of_row w L.cb 0 _ _ _ h.blk,cell_of_row w L.cb 1 _ _ _ h.blk,cell_of_row w L.cb 2 _ _ _ h.blk,cell_of_row w L.cb 3 _ _ _ h.blk⟩
theorem ClusAt.map{S:Nat→Prop}{w w':World}{L:CL}{c:CP}(h:ClusAt w L c)(hf:Fr S w w')(hS:∀k,k<w.heap.size→S k→k=L.mb){g:Int→Option NP}{q:Nat}(hq:q≤100)(hN:NodesP w' L.mb g q):ClusAt w' L ⟨c.plan,c.time,c.now,c.asked,g⟩:=by
 obtain⟨p1,p2,p3,p4,p5,p6⟩:=h.apart;obtain⟨l1,l2,l3,l4⟩:=h.lt;have hr:=h.rows;obtain⟨a1,a2,a3,_,a6⟩:=h;exact⟨(hf.block L.cb l1 (fun hx=>p2 (hS _ l1 hx).symm)).trans a1,ownsRow_fr a2 hf (fun k cur hk hx=>hr k cur _ hk (Or.inl rfl) (Or.inr (Or.inr (hS k (Array.getElem?_eq_some_iff.1 hk).1 hx)))),a3.fr hf (fun hx=>p3 (hS _ l2 hx).symm) (fun hx=>p6 (hS _ l4 hx).symm),⟨q,hq,hN⟩,a6⟩
theorem Fr.own{w w':World}{L:CL}{S:Nat→Prop}(h:Fr S w w')(hs:∀k,k<w.heap.size→S k→L.own k):Fr L.own w w':=
 ⟨h.os,h.tape,h.output,h.size,fun k hk hn=>h.block k hk (fun hx=>hn (hs k hk hx))⟩
theorem ClusAt.putMap{w W w':World}{L:CL}{c:CP}(h:ClusAt w L c)(hb:Below w.heap.size w W){g:Int→Option NP}{q:Nat}(hN:NodesP w' L.mb g q)(hq:q≤100)(hg:W.grownBy w' (some L.mb)):ClusAt w' L ⟨c.plan,c.time,c.now,c.asked,g⟩∧Fr L.own w w':=by
 have hf:Fr (fun k=>k=L.mb) w w':=(Fr.of hb).trans (Fr.grown hg (fun k e=>by injection e with e;exact e.symm));exact⟨h.map hf (fun k _ e=>e) hq hN,hf.own (fun k _ e=>Or.inr (Or.inr e))⟩
structure Six(W:World)(k:Nat)(t:TypeId)(a b c d e f:Value):Prop where
 obj:∃cur,W.heap[k]?=some (.cells cur t (0,0))
 c0:W.cell? ⟨k,0,none⟩=some a
 c1:W.cell? ⟨k,1,none⟩=some b
 c2:W.cell? ⟨k,2,none⟩=some c
 c3:W.cell? ⟨k,3,none⟩=some d
 c4:W.cell? ⟨k,4,none⟩=some e
 c5:W.cell? ⟨k,5,none⟩=some f
 fz:∀o,W.frozen? ⟨k,o,none⟩=false
 lt:k<W.heap.size
theorem Six.below{W W':World}{k:Nat}{t:TypeId}{a b c d e f:Value}(h:Six W k t a b c d e f)(hb:Below W.heap.size W W'):Six W' k t a b c d e f:=
 ⟨h.obj.imp fun _ hx=>(hb.block k h.lt).trans hx,(hb.cell (p:=⟨k,0,none⟩) h.lt).trans h.c0,(hb.cell (p:=⟨k,1,none⟩) h.lt).trans h.c1,(hb.cell (p:=⟨k,2,none⟩) h.lt).trans h.c2,(hb.cell (p:=⟨k,3,none⟩) h.lt).trans h.c3,(hb.cell (p:=⟨k,4,none⟩) h.lt).trans h.c4,(hb.cell (p:=⟨k,5,none⟩) h.lt).trans h.c5,fun o=>(hb.frozen (p:=⟨k,o,none⟩) h.lt).trans (h.fz o),Nat.lt_of_lt_of_le h.lt hb.size⟩
theorem new6(w:World)(t:TypeId)(a b c d e f:Value):∃W,W=w.alloc (.cells #[a,b,c,d,e,f] t)∧Six W w.heap.size t a b c d e f∧Below w.heap.size w W∧W.heap.size=w.heap.size+1∧(∀k o,k<w.heap.size→W.cell? ⟨k,o,none⟩=w.cell? ⟨k,o,none⟩):=
 ⟨_,rfl,⟨⟨_,World.alloc_heap_new w _⟩,by simp,by simp,by simp,by simp,by simp,by simp,fun o=>by simp,by simp⟩,(Below.refl _ _).alloc (Nat.le_refl _) _,by simp,fun k o hk=>((Below.refl w.heap.size w).alloc (Nat.le_refl _) _).cell (p:=⟨k,o,none⟩) hk⟩
theorem cTime_any(L:CL)(c:CP)(w:World)(h:ClusAt w L c) :
 Calls Tryz.prog 47 #[.pointer (some ⟨L.cb,0,none⟩)] w fun e w'=>e=.returned (.int .i64 c.time)∧w=w':=by
 obtain⟨_,c1,_,_⟩:=h.cells;clear h;go_enter Tryz.func47,Tryz.ntmps47;go_wp2;go_ret;exact⟨rfl,rfl⟩
set_option maxRecDepth 100000 in
set_option maxHeartbeats 1600000 in
theorem cSet_any(ea:Nat→Addr)(L:CL)(c:CP)(i v:Int)(w:World)(hg:Glob w ea [4,2])(h:ClusAt w L c)(hi:(Lit.int .i64 i).wf=true) :
 Calls Tryz.prog 140 #[.pointer (some ⟨L.cb,0,none⟩),.int .i64 i,.int .i64 v] w fun e w'=>e=.returned (errV ea (c.set i v).2)∧ClusAt w' L (c.set i v).1∧Fr L.own w w':=by
 obtain⟨c0,c1,c2,c3⟩:=h.cells;obtain⟨l1,l2,l3,l4⟩:=h.lt;obtain⟨q,hq,hN⟩:=h.nodes;have g4:=hg.cell 4 (by simp);have g2:=hg.cell 2 (by simp);have gl4:=hg.lt 4 (by simp);have gl2:=hg.lt 2 (by simp);simp only[gOf] at g4 g2 gl4 gl2;have HN:=Lib.hid hN;have H:=Lib.hid h;clear h hN
 cases hf:c.f i with
 | none=>
  have HS:Hid (c.set i v=(c,4)):=by unfold Hid CP.set;rw[hf]
  have hlk:=HN.out.ok_none hi hf;clear hf;go_enter Tryz.func140,Tryz.ntmps140;go_wp2;go_ret;rw[HS.out];exact⟨rfl,H.out.below ((Below.refl _ _).alloc (Nat.le_refl _) _),(Fr.refl _ _).alloc _⟩
 | some x=>
  obtain⟨sa,sc,hlk,hrow⟩:=HN.out.ok_some hi hf;have HR:=Lib.hid hrow;clear hrow
  by_cases hv:numB v=true
  ·have HS:Hid (c.set i v=(⟨c.plan,c.time,c.now,c.asked,putN c.f i ⟨x.st,v,x.m,x.d,x.s,x.h⟩⟩,0)):=by unfold Hid CP.set;rw[hf];simp only[hv,if_true];rfl
   have HF:=Lib.hid hf;have HV : -1048576≤v∧v≤1048576:=by simpa[numB] using hv
   obtain⟨hv1,hv2⟩:=HV;have hd1:decide (v < -1048576)=false:=by simpa using hv1
   have hd2:decide (1048576<v)=false:=by simpa using hv2
   clear hf hv;go_enter Tryz.func140,Tryz.ntmps140;go_wp2;obtain⟨W2,hW2,⟨_,n0,n1,n2,n3,n4,n5,_,_⟩,hb2,hz2,hc2⟩:=new6 w 143 (.int .i64 x.st) (.int .i64 v) (.int .i64 x.m) (.int .i64 x.d) (.int .i64 x.s) (.slice sa x.h.length sc);have k3:=(hc2 L.cb 3 l1).trans c3;rw[←hW2];have H2:=Lib.hid (H.out.below hb2);have HN2:=Lib.hid (HN.out.below (below_drewN hb2 1));have HR2:=Lib.hid (HR.out.below (below_drewN hb2 1));clear hW2 hz2 hc2;go_still_tail 6,(by kernel_rfl)
   change wpList _ _ _ _ _ W2.drew
   go_wp2_with (at_mapUpdate;refine wpList_put_nodes rfl _ _ _ rfl (mb:=L.mb) (g:=c.f) (q:=q) (i:=i) (x:=⟨x.st,v,x.m,x.d,x.s,x.h⟩) (sl:=.slice sa x.h.length sc) rfl HN2.out (by omega) rfl rfl hi HR2.out ?_;intro w3 hN3 hg3);go_ret;rw[HS.out];rw[HF.out] at hN3;obtain⟨r1,r2⟩:=H.out.putMap (below_drewN hb2 1) hN3 hq hg3;exact⟨(nil_errV ea rfl)▸rfl,r1,r2⟩
  ·have HS:Hid (c.set i v=(c,2)):=by unfold Hid CP.set;rw[hf];simp only[hv];rfl
   have HV:v < -1048576∨1048576<v:=by
    have h1:¬(-1048576≤v∧v≤1048576):=by simpa[numB] using hv
    omega
   clear hf hv
   rcases HV with hv|hv
   ·go_enter Tryz.func140,Tryz.ntmps140
    go_wp2;go_ret;rw[HS.out];exact⟨rfl,H.out.below ((Below.refl _ _).alloc (Nat.le_refl _) _),(Fr.refl _ _).alloc _⟩
   ·have hv1:decide (v < -1048576)=false:=by simp;omega
    go_enter Tryz.func140,Tryz.ntmps140;go_wp2;go_ret;rw[HS.out];exact⟨rfl,H.out.below ((Below.refl _ _).alloc (Nat.le_refl _) _),(Fr.refl _ _).alloc _⟩
set_option maxRecDepth 100000 in
set_option maxHeartbeats 1600000 in
theorem cTurn_any(ea:Nat→Addr)(L:CL)(c:CP)(i t:Int)(w:World)(hg:Glob w ea [4,6])(h:ClusAt w L c)(hi:(Lit.int .i64 i).wf=true) :
 Calls Tryz.prog 141 #[.pointer (some ⟨L.cb,0,none⟩),.int .i64 i,.int .i64 t] w fun e w'=>e=.returned (errV ea (c.turn i t).2)∧ClusAt w' L (c.turn i t).1∧Fr L.own w w':=by
 obtain⟨c0,c1,c2,c3⟩:=h.cells;obtain⟨l1,l2,l3,l4⟩:=h.lt;obtain⟨q,hq,hN⟩:=h.nodes;have g4:=hg.cell 4 (by simp);have g2:=hg.cell 6 (by simp);have gl4:=hg.lt 4 (by simp);have gl2:=hg.lt 6 (by simp);simp only[gOf] at g4 g2 gl4 gl2;have HN:=Lib.hid hN;have H:=Lib.hid h;clear h hN
 cases hf:c.f i with
 | none=>
  have HS:Hid (c.turn i t=(c,4)):=by unfold Hid CP.turn;rw[hf]
  have hlk:=HN.out.ok_none hi hf;clear hf;go_enter Tryz.func141,Tryz.ntmps141;go_wp2;go_ret;rw[HS.out];exact⟨rfl,H.out.below ((Below.refl _ _).alloc (Nat.le_refl _) _),(Fr.refl _ _).alloc _⟩
 | some x=>
  obtain⟨sa,sc,hlk,hrow⟩:=HN.out.ok_some hi hf;clear hrow
  by_cases hv:x.st=0↔t=0
  ·have HS:Hid (c.turn i t=(c,6)):=by unfold Hid CP.turn;rw[hf];simp only[hv,if_true]
   have hd:((x.st==0)==(t==0))=true:=by
    by_cases h1:t=0
    ·have h2:=hv.2 h1;simp[h1,h2]
    ·have h2:¬x.st=0:=fun e=>h1 (hv.1 e)
     have e1:(x.st==0)=false:=by simpa using h2
     have e2:(t==0)=false:=by simpa using h1
     rw[e1,e2];rfl
   clear hf hv;go_enter Tryz.func141,Tryz.ntmps141;go_wp2;go_ret;rw[HS.out];exact⟨rfl,H.out.below ((Below.refl _ _).alloc (Nat.le_refl _) _),(Fr.refl _ _).alloc _⟩
  ·have HS:Hid (c.turn i t=(⟨c.plan,c.time,c.now,c.asked,putN c.f i ⟨t,x.val,0,0,0,[]⟩⟩,0)):=by unfold Hid CP.turn;rw[hf];simp only[hv,if_false];rfl
   have HF:=Lib.hid hf
   have hd:((x.st==0)==(t==0))=false:=by
    rw[Bool.eq_false_iff];intro e;apply hv;rw[beq_iff_eq,Bool.eq_iff_iff,beq_iff_eq,beq_iff_eq] at e;exact e
   clear hf hv;go_enter Tryz.func141,Tryz.ntmps141;go_wp2;obtain⟨W2,hW2,⟨_,n0,n1,n2,n3,n4,n5,_,_⟩,hb2,hz2,hc2⟩:=new6 w 143 (.int .i64 x.st) (.int .i64 x.val) (.int .i64 x.m) (.int .i64 x.d) (.int .i64 x.s) (.slice sa x.h.length sc);have k3:=(hc2 L.cb 3 l1).trans c3;rw[←hW2];have HN2:=Lib.hid (HN.out.below (below_drewN hb2 1));clear hW2 hz2 hc2;go_still_tail 9,(by kernel_rfl)
   change wpList _ _ _ _ _ W2.drew
   go_wp2_with (at_mapUpdate;refine wpList_put_nodes rfl _ _ _ rfl (mb:=L.mb) (g:=c.f) (q:=q) (i:=i) (x:=⟨t,x.val,0,0,0,[]⟩) (sl:=.slice none 0 0) rfl HN2.out (by omega) rfl rfl hi (HRow.nil _) ?_;intro w3 hN3 hg3);go_ret;rw[HS.out];rw[HF.out] at hN3;obtain⟨r1,r2⟩:=H.out.putMap (below_drewN hb2 1) hN3 hq hg3;exact⟨(nil_errV ea rfl)▸rfl,r1,r2⟩
theorem cOff_any(ea:Nat→Addr)(L:CL)(c:CP)(i:Int)(w:World)(hg:Glob w ea [4,6])(h:ClusAt w L c)(hi:(Lit.int .i64 i).wf=true) :
 Calls Tryz.prog 81 #[.pointer (some ⟨L.cb,0,none⟩),.int .i64 i] w fun e w'=>e=.returned (errV ea (c.turn i 0).2)∧ClusAt w' L (c.turn i 0).1∧Fr L.own w w':=by
 have C:=Lib.hid (cTurn_any ea L c i 0 w hg h hi);clear hg h;go_enter Tryz.func81,Tryz.ntmps81;go_wp2_with fail;refine C.out.mono ?_;rintro e w1⟨rfl,h1,h2⟩;go_wp2;go_ret;exact⟨rfl,h1,h2⟩
theorem cOn_any(ea:Nat→Addr)(L:CL)(c:CP)(i:Int)(w:World)(hg:Glob w ea [4,6])(h:ClusAt w L c)(hi:(Lit.int .i64 i).wf=true) :
 Calls Tryz.prog 82 #[.pointer (some ⟨L.cb,0,none⟩),.int .i64 i] w fun e w'=>e=.returned (errV ea (c.turn i 1).2)∧ClusAt w' L (c.turn i 1).1∧Fr L.own w w':=by
 have C:=Lib.hid (cTurn_any ea L c i 1 w hg h hi);clear hg h;go_enter Tryz.func82,Tryz.ntmps82;go_wp2_with fail;refine C.out.mono ?_;rintro e w1⟨rfl,h1,h2⟩;go_wp2;go_ret;exact⟨rfl,h1,h2⟩
theorem ask_eq{c:CP}(h1:0≤c.now∧c.now≤3)(t:Int):(c.ask t).2=askE allPairs c.now c.asked t∧(c.ask t).1=⟨c.plan,c.time,c.now,askTo allPairs c.now c.asked t,c.f⟩:=by
 by_cases ht:t<0∨3<t
 ·have hm:modeB t=false:=by simp only[modeB,decide_eq_false_iff_not];omega
  have e:askE allPairs c.now c.asked t=2:=by rw[askE,if_pos hm]
  rw[askTo,e,CP.ask,if_pos ht,if_neg (by omega)];exact⟨rfl,rfl⟩
 ·have hm:modeB t=true:=by simp only[modeB,decide_eq_true_eq];omega
  by_cases ha:0≤c.asked
  ·have e:askE allPairs c.now c.asked t=6:=by rw[askE,if_neg (by simp[hm]),if_pos ha]
   rw[askTo,e,CP.ask,if_neg ht,if_pos ha,if_neg (by omega)];exact⟨rfl,rfl⟩
  ·have e:askE allPairs c.now c.asked t=0:=by rw[askE,if_neg (by simp[hm]),if_neg ha,if_pos (mem_allPairs h1 (by omega))]
   rw[askTo,e,CP.ask,if_neg ht,if_neg ha,if_pos rfl];exact⟨rfl,rfl⟩
theorem cAsk_any(ea:Nat→Addr)(L:CL)(c:CP)(t:Int)(w:World)(hg:Glob w ea [2,6,3])(h:ClusAt w L c)(hn:0≤c.now∧c.now≤3)(hk:c.asked=-1∨(0≤c.asked∧c.asked≤3)) :
 Calls Tryz.prog 83 #[.pointer (some ⟨L.cb,0,none⟩),.int .i64 t] w fun e w'=>e=.returned (errV ea (c.ask t).2)∧ClusAt w' L (c.ask t).1∧Fr L.own w w':=by
 obtain⟨c0,c1,c2,c3⟩:=h.cells;have C:=Lib.hid (ask_m ea L.bb L.mm allPairs c.now c.asked t w hg h.board allPairs_ok (by simp only[modeB,decide_eq_true_eq];omega) (by omega));have HE:=Lib.hid (ask_eq hn t);have H:=Lib.hid h;clear h hg hn hk;go_enter Tryz.func83,Tryz.ntmps83;go_wp2_with fail;refine C.out.mono ?_;rintro e w1⟨rfl,hB,hg,hb,hz⟩;go_wp2;go_ret;obtain⟨e1,e2⟩:=HE.out;rw[e1,e2];obtain⟨p1,p2,p3,p4,p5,p6⟩:=H.out.apart;obtain⟨l1,l2,l3,l4⟩:=H.out.lt;have hr:=H.out.rows;obtain⟨a1,a2,a3,⟨q,hq,a4⟩,a6⟩:=H.out;have hf:Fr (fun k=>k=L.bb) w w1:=Fr.grown hg (fun k e=>by injection e with e;exact e.symm);refine⟨rfl,⟨(hf.block L.cb l1 (fun e=>p1 e.symm)).trans a1,ownsRow_fr a2 hf (fun k cur hk e=>hr k cur _ hk (Or.inl rfl) (Or.inr (Or.inl e))),hB,⟨q,hq,a4.fr hf p3 (fun k cur hk e=>hr k cur _ hk (Or.inr rfl) (Or.inr (Or.inl e)))⟩,a6⟩,hf.own (fun k _ e=>Or.inr (Or.inl e))⟩
end Go.Proofs.YtppfkokfnoeopaaGreatDoor
