/- A part of a proof. -/
import Derived.Test.YtppfkokfnoeopaaGreatDoorSCMap
import Derived.Test.YtppfkokfnoeopaaGreatDoorSPlan
import Derived.Test.YtppfkokfnoeopaaGreatDoorSTally
set_option maxRecDepth 400000
set_option maxHeartbeats 6400000
namespace Go.Proofs.YtppfkokfnoeopaaGreatDoor
open Go.RowKit Go.Maps Go.Proofs.Tryz
def CP.on(c:CP)(i:Int):NP×Nat:=match c.f i with
 | none=>(NP0,4)
 | some x=>if x.st=2 then(x,0) else(NP0,11)
theorem Xf(ea:Nat→Addr)(L:CL)(c:CP)(i:Int)(w:World)(hg:Bh w ea [4,11])(h:Ap w L c)(hi:(Lit.int .i64 i).wf=true) :
 Calls prog 107 #[.pointer (some ⟨L.cb,0,none⟩),.int .i64 i] w fun e w'=>∃sa sc,e=.returned (.tuple #[.agg #[.int .i64 (c.on i).1.st,.int .i64 (c.on i).1.val,.int .i64 (c.on i).1.m,.int .i64 (c.on i).1.d,.int .i64 (c.on i).1.s,.slice sa (c.on i).1.h.length sc],Bm ea (c.on i).2])∧Cx w' (.slice sa (c.on i).1.h.length sc) (c.on i).1.h∧Below w.heap.size w w':=by
 obtain⟨c0,c1,c2,c3⟩:=h.cells;obtain⟨l1,l2,l3,l4⟩:=h.lt;obtain⟨q,hq,hN⟩:=h.nodes;have g4:=hg.cell 4 (by simp);have g2:=hg.cell 11 (by simp);have gl4:=hg.lt 4 (by simp);have gl2:=hg.lt 11 (by simp);simp only[gOf] at g4 g2 gl4 gl2;have hN1:=hN.below (zb.alloc zl (.cells #[.int .i64 0,.int .i64 0,.int .i64 0,.int .i64 0,.int .i64 0,.slice none 0 0] 143));have HN:=zh hN1;have HN0:=zh hN;clear h hN hN1
 cases hf:c.f i with
 | none=>
  have HS:Hid (c.on i=(NP0,4)):=by unfold Hid CP.on;rw[hf]
  have hlk:=HN.out.ok_none hi hf;clear hf;go_enter func107,ntmps107;go_wp2;obtain⟨W1,hW1,S1,hb1,hz1,_⟩:=Ng w 143 (.int .i64 0) (.int .i64 0) (.int .i64 0) (.int .i64 0) (.int .i64 0) (.slice none 0 0);rw[←hW1];obtain⟨W2,hW2,_,hb2,hz2,_⟩:=Ng W1 143 (.int .i64 0) (.int .i64 0) (.int .i64 0) (.int .i64 0) (.int .i64 0) (.slice none 0 0);rw[←hW2];have S2:=S1.below hb2;obtain⟨_,n0,n1,n2,n3,n4,n5,nf,nl⟩:=S2;have hb:Below w.heap.size w W2:=hb1.trans (hb2.mono hb1.size);have g4':=(hb.cell (p:=⟨4,0,none⟩) gl4).trans g4;clear hW1 hW2 hz1 hz2;go_region;go_wp2
  have HB:Hid (Below w.heap.size w ((((((W2.setCell ⟨w.heap.size,0,none⟩ (.int .i64 0)).setCell ⟨w.heap.size,1,none⟩ (.int .i64 0)).setCell ⟨w.heap.size,2,none⟩ (.int .i64 0)).setCell ⟨w.heap.size,3,none⟩ (.int .i64 0)).setCell ⟨w.heap.size,4,none⟩ (.int .i64 0)).setCell ⟨w.heap.size,5,none⟩ (.slice none 0 0)).drew):=
   (((((((hb.setCell (by simp) _).setCell (by simp) _).setCell (by simp) _).setCell (by simp) _).setCell (by simp) _).setCell (by simp) _)).drew
  clear hb hb1 hb2;refine bodyPost_ret (v:=.tuple #[.agg #[.int .i64 0,.int .i64 0,.int .i64 0,.int .i64 0,.int .i64 0,.slice none 0 0],Bm ea 4]) (by simp[results,results107,go_sem,n0,n1,n2,n3,n4,n5]) rfl ?_;rw[HS.out];exact⟨none,0,rfl,Cx.nil _,HB.out⟩
 | some x=>
  obtain⟨sa,sc,hlk0,hrow⟩:=HN0.out.ok_some' hi hf;have hlk:=hlk0 _ (zb.alloc zl (.cells #[.int .i64 0,.int .i64 0,.int .i64 0,.int .i64 0,.int .i64 0,.slice none 0 0] 143));clear hlk0;have HR:=zh hrow;clear hrow
  by_cases hv:x.st=2
  ·have HS:Hid (c.on i=(x,0)):=by unfold Hid CP.on;rw[hf];simp only[hv,if_true]
   clear hf;have hd:(x.st != 2)=false:=by simpa using hv
   clear hv;go_enter func107,ntmps107;go_wp2;refine bodyPost_ret (v:=.tuple #[.agg #[.int .i64 x.st,.int .i64 x.val,.int .i64 x.m,.int .i64 x.d,.int .i64 x.s,.slice sa x.h.length sc],.nilIface]) (by simp[results,results107,go_sem]) rfl ?_;rw[HS.out];have hb:Below w.heap.size w ((w.alloc (.cells #[.int .i64 x.st,.int .i64 x.val,.int .i64 x.m,.int .i64 x.d,.int .i64 x.s,.slice sa x.h.length sc] 143)).alloc (.cells #[.int .i64 x.st,.int .i64 x.val,.int .i64 x.m,.int .i64 x.d,.int .i64 x.s,.slice sa x.h.length sc] 143)):=(zb.alloc zl _).alloc (by simp) _;exact⟨sa,sc,(Al ea).symm▸rfl,HR.out.below hb,hb⟩
  ·have HS:Hid (c.on i=(NP0,11)):=by unfold Hid CP.on;rw[hf];simp only[hv,if_false]
   clear hf;have hd:(x.st != 2)=true:=by simpa using hv
   clear hv;go_enter func107,ntmps107;go_wp2;obtain⟨W1,hW1,S1,hb1,hz1,_⟩:=Ng w 143 (.int .i64 0) (.int .i64 0) (.int .i64 0) (.int .i64 0) (.int .i64 0) (.slice none 0 0);rw[←hW1];obtain⟨W2,hW2,_,hb2,hz2,_⟩:=Ng W1 143 (.int .i64 x.st) (.int .i64 x.val) (.int .i64 x.m) (.int .i64 x.d) (.int .i64 x.s) (.slice sa x.h.length sc);rw[←hW2];have S2:=S1.below hb2;obtain⟨_,n0,n1,n2,n3,n4,n5,nf,nl⟩:=S2;have hb:Below w.heap.size w W2:=hb1.trans (hb2.mono hb1.size);have g2':=(hb.cell (p:=⟨10,0,none⟩) gl2).trans g2;clear hW1 hW2 hz1 hz2;go_region;go_wp2
   have HB:Hid (Below w.heap.size w ((((((W2.setCell ⟨w.heap.size,0,none⟩ (.int .i64 0)).setCell ⟨w.heap.size,1,none⟩ (.int .i64 0)).setCell ⟨w.heap.size,2,none⟩ (.int .i64 0)).setCell ⟨w.heap.size,3,none⟩ (.int .i64 0)).setCell ⟨w.heap.size,4,none⟩ (.int .i64 0)).setCell ⟨w.heap.size,5,none⟩ (.slice none 0 0)).drew):=
    (((((((hb.setCell (by simp) _).setCell (by simp) _).setCell (by simp) _).setCell (by simp) _).setCell (by simp) _).setCell (by simp) _)).drew
   clear hb hb1 hb2;refine bodyPost_ret (v:=.tuple #[.agg #[.int .i64 0,.int .i64 0,.int .i64 0,.int .i64 0,.int .i64 0,.slice none 0 0],Bm ea 11]) (by simp[results,results107,go_sem,n0,n1,n2,n3,n4,n5]) rfl ?_;rw[HS.out];exact⟨none,0,rfl,Cx.nil _,HB.out⟩
theorem zKn{w w1:World}{x y z:Value}{t:TypeId}(hb:Below (w.alloc (.cells #[x,y,z] t)).heap.size (w.alloc (.cells #[x,y,z] t)) w1) :
 w1.cell? ⟨w.heap.size,0,none⟩=some x∧w1.cell? ⟨w.heap.size,1,none⟩=some y∧w1.cell? ⟨w.heap.size,2,none⟩=some z∧w1.frozen? ⟨w.heap.size,0,none⟩=false∧w1.frozen? ⟨w.heap.size,1,none⟩=false∧w1.frozen? ⟨w.heap.size,2,none⟩=false∧w.heap.size<w1.heap.size∧Below w.heap.size w w1:=
 ⟨(hb.cell (p:=⟨w.heap.size,0,none⟩) (by simp)).trans (by simp),(hb.cell (p:=⟨w.heap.size,1,none⟩) (by simp)).trans (by simp),(hb.cell (p:=⟨w.heap.size,2,none⟩) (by simp)).trans (by simp),
   (hb.frozen (p:=⟨w.heap.size,0,none⟩) (by simp)).trans (by simp),(hb.frozen (p:=⟨w.heap.size,1,none⟩) (by simp)).trans (by simp),(hb.frozen (p:=⟨w.heap.size,2,none⟩) (by simp)).trans (by simp),
   by have:=hb.size;simp at this;omega,(zb.alloc zl _).trans (hb.mono (by simp))⟩
theorem zCf(ea:Nat→Addr)(L:CL)(c:CP)(i:Int)(w:World)(hg:Bh w ea [4,11])(h:Ap w L c)(hi:(Lit.int .i64 i).wf=true) :
 Calls prog 58 #[.pointer (some ⟨L.cb,0,none⟩),.int .i64 i] w fun e w'=>e=.returned (.tuple #[.agg #[.int .i64 (c.on i).1.m,.int .i64 (c.on i).1.d,.int .i64 (c.on i).1.s],Bm ea (c.on i).2])∧Below w.heap.size w w':=by
 have hb0:Below w.heap.size w (w.alloc (.cells #[.int .i64 0,.int .i64 0,.int .i64 0] 96)):=zb.alloc zl _;have C:=zh (Xf ea L c i _ (hg.below hb0) (h.below hb0) hi);clear h hg hb0;generalize c.on i=r at *;obtain⟨x,k⟩:=r;dsimp only at C ⊢;go_enter func58,ntmps58;go_wp2_with fail;refine C.out.mono ?_;rintro e w1⟨sa,sc,rfl,hr,hb⟩;obtain⟨n0,n1,n2,f0,f1,f2,nl,hb1⟩:=zKn hb;have d0:(w1.alloc (.cells #[.int .i64 x.st,.int .i64 x.val,.int .i64 x.m,.int .i64 x.d,.int .i64 x.s,.slice sa x.h.length sc] 143)).cell? ⟨w.heap.size,0,none⟩=some (.int .i64 0):=(World.cell?_alloc_lt _ _ ⟨w.heap.size,0,none⟩ nl).trans n0;have d1:(w1.alloc (.cells #[.int .i64 x.st,.int .i64 x.val,.int .i64 x.m,.int .i64 x.d,.int .i64 x.s,.slice sa x.h.length sc] 143)).cell? ⟨w.heap.size,1,none⟩=some (.int .i64 0):=(World.cell?_alloc_lt _ _ ⟨w.heap.size,1,none⟩ nl).trans n1;have d2:(w1.alloc (.cells #[.int .i64 x.st,.int .i64 x.val,.int .i64 x.m,.int .i64 x.d,.int .i64 x.s,.slice sa x.h.length sc] 143)).cell? ⟨w.heap.size,2,none⟩=some (.int .i64 0):=(World.cell?_alloc_lt _ _ ⟨w.heap.size,2,none⟩ nl).trans n2
 have r0:∀(x y z:Value) (o:Obj),((((w1.setCell ⟨w.heap.size,0,none⟩ x).setCell ⟨w.heap.size,1,none⟩ y).setCell ⟨w.heap.size,2,none⟩ z).alloc o).cell? ⟨w.heap.size,0,none⟩=some x:=fun x y z o=>by
  rw[World.cell?_alloc_lt _ _ ⟨w.heap.size,0,none⟩ (by simpa using nl)];go_simp
 have r1:∀(x y z:Value) (o:Obj),((((w1.setCell ⟨w.heap.size,0,none⟩ x).setCell ⟨w.heap.size,1,none⟩ y).setCell ⟨w.heap.size,2,none⟩ z).alloc o).cell? ⟨w.heap.size,1,none⟩=some y:=fun x y z o=>by
  rw[World.cell?_alloc_lt _ _ ⟨w.heap.size,1,none⟩ (by simpa using nl)];go_simp
 have r2:∀(x y z:Value) (o:Obj),((((w1.setCell ⟨w.heap.size,0,none⟩ x).setCell ⟨w.heap.size,1,none⟩ y).setCell ⟨w.heap.size,2,none⟩ z).alloc o).cell? ⟨w.heap.size,2,none⟩=some z:=fun x y z o=>by
  rw[World.cell?_alloc_lt _ _ ⟨w.heap.size,2,none⟩ (by simpa using nl)];go_simp
 have R0:=zh r0;have R1:=zh r1;have R2:=zh r2;clear hr hb r0 r1 r2;go_wp2;refine bodyPost_ret (v:=.tuple #[.agg #[.int .i64 x.m,.int .i64 x.d,.int .i64 x.s],Bm ea k]) (by simp[results,results58,go_sem,R0.out,R1.out,R2.out]) rfl ?_;exact⟨rfl,(((hb1.setCell (by simp) _).setCell (by simp) _).setCell (by simp) _).alloc (by have:=hb1.size;simp;omega) _⟩
theorem Uj(ea:Nat→Addr)(L:CL)(c:CP)(i:Int)(w:World)(hg:Bh w ea [4,11])(h:Ap w L c)(hi:(Lit.int .i64 i).wf=true)(hl:(c.on i).1.h.length≤1000) :
 Calls prog 59 #[.pointer (some ⟨L.cb,0,none⟩),.int .i64 i] w fun e w'=>∃a cap,e=.returned (.tuple #[.slice a (c.on i).1.h.length cap,Bm ea (c.on i).2])∧Ac w' a (Av (c.on i).1.h)∧(c.on i).1.h.length≤cap∧Below w.heap.size w w':=by
 have C:=zh (Xf ea L c i _ hg h hi);clear h hg;generalize c.on i=r at *;obtain⟨x,k⟩:=r;dsimp only at C hl ⊢;have KC:=zh (fun(W:World) (a:Option Addr) (cap:Nat) (hr:Ac W a (Av x.h))=>Tn a x.h.length cap x.h W rfl hr (by omega));go_enter func59,ntmps59;go_wp2_with fail;refine C.out.mono ?_;rintro e w1⟨sa,sc,rfl,hr,hb⟩;have hb2:Below w1.heap.size w1 (w1.alloc (.cells #[.int .i64 x.st,.int .i64 x.val,.int .i64 x.m,.int .i64 x.d,.int .i64 x.s,.slice sa x.h.length sc] 143)):=zb.alloc zl _;have K2:=zh (KC.out _ sa sc (Cd (hr.below hb2)));clear KC;go_wp2_with fail;refine K2.out.mono ?_;rintro e w2⟨a',cap',rfl,hr2,hc2,hb3⟩;go_wp2;go_ret2;exact⟨a',cap',rfl,hr2,hc2,Ar (Ar hb hb2) hb3⟩
def stT(k:Int):List UInt8:=if k=0 then[111,102,102] else if k=1 then[108,105,115,116,101,110,115] else[97,99,116,105,118,101]
def CP.stT(c:CP)(i:Int):List UInt8:=match c.f i with
 | none=>[]
 | some x=>Go.Proofs.YtppfkokfnoeopaaGreatDoor.stT x.st
theorem Z5(k:Int)(hk:k=0∨k=1∨k=2)(W:World):(Instr.index 162 (.agg #[.string ⟨#[111,102,102]⟩,.string ⟨#[108,105,115,116,101,110,115]⟩,.string ⟨#[97,99,116,105,118,101]⟩]) (.int .i64 k)).run prog W=.ok (.string ⟨(stT k).toArray⟩) W:=by
 rcases hk with rfl|rfl|rfl<;>kernel_rfl
theorem Rh(L:CL)(c:CP)(i:Int)(w:World)(h:Ap w L c)(hi:(Lit.int .i64 i).wf=true)(hs:∀x,c.f i=some x→x.st=0∨x.st=1∨x.st=2) :
 Calls prog 49 #[.pointer (some ⟨L.cb,0,none⟩),.int .i64 i] w fun e w'=>e=.returned (.string ⟨(c.stT i).toArray⟩)∧Below w.heap.size w w':=by
 obtain⟨c0,c1,c2,c3⟩:=h.cells;obtain⟨q,hq,hN⟩:=h.nodes;have HN:=zh hN;clear h hN
 cases hf:c.f i with
 | none=>
  have HS:Hid (c.stT i=[]):=by unfold Hid CP.stT;rw[hf]
  have hlk:=HN.out.ok_none hi hf;clear hf hs;go_enter func49,ntmps49;go_wp2;go_ret;rw[HS.out];exact⟨rfl,zb.alloc zl _⟩
 | some x=>
  have HS:Hid (c.stT i=Go.Proofs.YtppfkokfnoeopaaGreatDoor.stT x.st):=by unfold Hid CP.stT;rw[hf]
  obtain⟨sa,sc,hlk,_⟩:=HN.out.ok_some hi hf;have hs:=hs x hf;clear hf;obtain⟨st,val,m,d,s,hh⟩:=x;dsimp only at hs hlk HS;have hx:=fun W=>Z5 st hs W
  clear hs;go_enter func49,ntmps49;go_wp2;go_ret;rw[HS.out];exact⟨rfl,zb.alloc zl _⟩
def Da(r:Nat)(h:List Ent):Bool:=decide (tB r h<tG r h)
def NP.end1(stays:List Ent→Bool)(x:NP):NP:=if x.st=2∧stays x.h=false then⟨0,x.val,0,0,0,[]⟩ else x
def NP.end2(now:Int)(x:NP):NP:=if x.st=2 then⟨2,x.val,x.m,now,x.s,x.h⟩ else x
theorem zFz(stays:List Ent→Bool)(now:Int)(x:NP):NP.endR stays now x=NP.end2 now (NP.end1 stays x):=by
 unfold NP.endR NP.end1
 by_cases h:x.st=2
 ·rw[if_pos h]
  cases hs:stays x.h
  ·rw[if_neg (by simp),if_pos ⟨h,rfl⟩,NP.end2,if_neg (by simp)]
  ·rw[if_pos rfl,if_neg (by simp),NP.end2,if_pos h]
 ·rw[if_neg h,if_neg (fun e=>h e.1),NP.end2,if_neg h]
def Jm(left:Int→Bool)(f:Int→Option NP)(k:NP→NP):Int→Option NP:=fun i=>if left i then f i else(f i).map k
theorem Rv(f:Int→Option NP)(k:NP→NP):Jm (fun i=>(f i).isSome) f k=f:=funext fun i=>by
 unfold Jm
 by_cases h:(f i).isSome=true
 ·rw[if_pos h]
 ·rw[if_neg h]
  have e:f i=none:=by cases hf:f i<;>simp_all
  rw[e];rfl
theorem Xw{left:Int→Bool}(h:∀i,left i=false)(f:Int→Option NP)(k:NP→NP):Jm left f k=fun i=>(f i).map k:=funext fun i=>by
 unfold Jm;rw[h i];rfl
theorem Xx{left:Int→Bool}{f:Int→Option NP}{k:NP→NP}{i:Int}{x y:NP}(hf:f i=some x)(hy:k x=y):Ge (Jm left f k) i y=Jm (fun j=>left j&&!(j==i)) f k:=funext fun j=>by
 unfold Ge Jm
 by_cases e:j=i
 ·subst e;simp[hf,hy]
 ·have e2:(j==i)=false:=by simpa using e
  simp[e,e2]
theorem O9{left:Int→Bool}{f:Int→Option NP}{k:NP→NP}{i:Int}{x:NP}(hf:f i=some x)(hy:k x=x):Jm left f k=Jm (fun j=>left j&&!(j==i)) f k:=funext fun j=>by
 unfold Jm
 by_cases e:j=i
 ·subst e;rw[hf,Option.map_some,hy];simp
 ·have e2:(j==i)=false:=by simpa using e
  simp[e2]
theorem Q8{left:Int→Bool}{f:Int→Option NP}{k:NP→NP}{i:Int}(hl:left i=true):Jm left f k i=f i:=by unfold Jm;rw[hl];rfl
theorem Rk{es:List Ent}(h:(chk es).1=0):es.length≤200:=by
 unfold chk at h
 split at h
 ·simp at h
 ·omega
theorem Zj(ea:Nat→Addr)(L:CL)(c:CP)(w:World)(hg:∀W,Fr L.own w W→Bh W ea [7,10,4,2,3])(h:Ap w L c)(hp:(Ay c.plan).1=0)(hc:∀i x,c.f i=some x→x.st=2→(chk x.h).1=0)(hk:c.asked=-1∨0≤c.asked) :
 Calls prog 186 #[.pointer (some ⟨L.cb,0,none⟩)] w fun e w'=>e=.returned .nilIface∧Ap w' L ⟨c.plan,c.time,c.turned,-1,fun i=>(c.f i).map (NP.endR (Da c.plan.length) c.turned)⟩∧Fr L.own w w':=by
 obtain⟨c0,c1,c2,c3⟩:=h.cells;obtain⟨l1,l2,l3,l4⟩:=h.lt;obtain⟨q,hq,hN⟩:=h.nodes;obtain⟨p1,p2,p3,p4,p5,p6⟩:=h.apart;have hrl:1≤(c.plan.length:Int)∧(c.plan.length:Int)≤32:=by have:=Ai hp;omega
 have HN:=zh hN;have H:=zh h;have HC:=zh hc;have HG:=zh hg;have HP:=zh hp;clear h hN hc hg hp;go_enter func186,ntmps186;go_wp2_with (at_range;refine El rfl _ rfl rfl HN.out ?_;intro w0 hR0 hb0 hz0);go_frame;have hR0':Bb w0 L.mb w.heap.size (Jm (fun i=>(c.f i).isSome) c.f (NP.end1 (Da c.plan.length))) q (fun i=>(c.f i).isSome) q:=by rw[Rv];exact hR0
 go_loopw [15] (fun _ wr=>∃(left:Int→Bool) (cnt:Nat),Bb wr L.mb w.heap.size (Jm left c.f (NP.end1 (Da c.plan.length))) q left cnt∧Fr (fun k=>k=L.mb) w wr) (fun _ wr=>wr.rangeLeft L.mb w.heap.size)
 case atStart=>exact⟨_,q,hR0',Fr.of hb0⟩
 case round=>
  clear hR0 hb0 hz0 hR0';obtain⟨left,cnt,hR,hF⟩:=hrel;have HR:=zh hR;have HF:=zh hF;clear hF;go_wp2_with (at_next;refine E0 rfl _ rfl rfl hR ?_ ?_)
  ·intro hc0 hl0
   clear hR;obtain⟨f1,hf1⟩:∃f1,f1=fun i=>(c.f i).map (NP.end1 (Da c.plan.length)):=⟨_,rfl⟩
   have hN1:Be wr L.mb f1 q:=by
    have h0:=HR.out.at;rw[Xw hl0,←hf1] at h0;exact h0
   have hM:=H.out.map HF.out (fun k _ e=>e) hq hN1;obtain⟨k0,k1,k2,k3⟩:=hM.cells;obtain⟨t1,t2,t3,t4⟩:=hM.lt;have C:=zh (zJ6 L.bb L.mm B9 c.now c.asked wr hM.board hk);have HM:=zh hM;have HF1:=zh hf1;clear hl0 hN1 hM hf1;go_wp2_with fail;refine C.out.mono ?_;rintro e w7⟨rfl,hB7,hg7,hb7,hz7⟩;have hF7:Fr L.own w w7:=(HF.out.own (fun k _ e=>Or.inr (Or.inr e))).trans (Fr.grown hg7 (fun k e=>Or.inr (Or.inl (by injection e with e;exact e.symm))))
   have hA7:Ap w7 L ⟨c.plan,c.time,Hp c.now c.asked,-1,f1⟩:=by
    have hr:=HM.out.rows;obtain⟨a1,a2,a3,⟨q',hq',a4⟩,a6⟩:=HM.out;have hf:Fr (fun k=>k=L.bb) wr w7:=Fr.grown hg7 (fun k e=>by injection e with e;exact e.symm);exact⟨(hf.block L.cb t1 (fun e=>p1 e.symm)).trans a1,Dh a2 hf (fun k cur hk e=>hr k cur _ hk (Or.inl rfl) (Or.inr (Or.inl e))),hB7,⟨q',hq',a4.fr hf p3 (fun k cur hk e=>hr k cur _ hk (Or.inr rfl) (Or.inr (Or.inl e)))⟩,a6⟩
   clear hB7 hg7 hb7 hz7 k0 k1 k2 k3;have HF7:=zh hF7;have HT:Hid (c.turned=Hp c.now c.asked):=rfl;generalize Hp c.now c.asked=now at *;obtain⟨k0,k1,k2,k3⟩:=hA7.cells;have t5:=hA7.lt.1;obtain⟨q',hq',hN7⟩:=hA7.nodes;have HN7:=zh hN7;have HA7:=zh hA7;clear hF7 hN7 hA7;dsimp only at k0 k1 HN7;go_wp2_with (at_range;refine El rfl _ rfl rfl HN7.out ?_;intro w8 hR8 hb8 hz8);go_frame;have hR8':Bb w8 L.mb w7.heap.size (Jm (fun i=>(f1 i).isSome) f1 (NP.end2 now)) q' (fun i=>(f1 i).isSome) q':=by rw[Rv];exact hR8
   go_loopw [57] (fun _ wr=>∃(left:Int→Bool) (cnt:Nat),Bb wr L.mb w7.heap.size (Jm left f1 (NP.end2 now)) q' left cnt∧Fr (fun k=>k=L.mb) w7 wr) (fun _ wr=>wr.rangeLeft L.mb w7.heap.size)
   case atStart=>exact⟨_,q',hR8',Fr.of hb8⟩
   case round=>
    clear hR8 hb8 hz8 hR8';obtain⟨left,cnt,hR,hF⟩:=hrel;have HR':=zh hR;have HF':=zh hF;clear hF;go_wp2_with (at_next;refine E0 rfl _ rfl rfl hR ?_ ?_)
    ·intro hc0 hl0
     have hN9:=HR'.out.at;rw[Xw hl0] at hN9;have hM9:=HA7.out.map HF'.out (fun k _ e=>e) hq' hN9
     have hfx:(fun i=>(f1 i).map (NP.end2 now))=fun i=>(c.f i).map (NP.endR (Da c.plan.length) c.turned):=funext fun i=>by
      rw[HF1.out,HT.out];dsimp only;rw[Option.map_map];congr 1;funext x;exact(zFz _ _ _).symm
     have HM9:=zh hM9;have HFX:=zh hfx;clear hc0 hl0 hN9 hM9 hfx hR;go_wp2;go_ret;have h9:=HM9.out;rw[HFX.out] at h9;rw[HT.out] at h9 ⊢;exact⟨rfl,h9,HF7.out.trans (HF'.out.own (fun k _ e=>Or.inr (Or.inr e)))⟩
    ·intro i x sa sc w1 cnt1 hwi hli hgi hrow hR1 hlt hg1 hz1 hen
     rw[Q8 hli] at hgi;have HZ1:=zh hz1;clear hz1;have hF1:Fr (fun k=>k=L.mb) w7 w1:=HF'.out.then (S':=fun k=>k=w7.heap.size) (Fr.grown hg1 (fun k e=>by injection e with e;exact e.symm)) (fun i e=>Or.inr (by omega));obtain⟨W2,hW2,S2,hb2,hz2,hc2⟩:=Ng w1 143 (.int .i64 x.st) (.int .i64 x.val) (.int .i64 x.m) (.int .i64 x.d) (.int .i64 x.s) (.slice sa x.h.length sc);have hF2:Fr (fun k=>k=L.mb) w7 W2:=hF1.off hb2;have HR2:=zh (hR1.below hb2);clear hc2 hg1;have HF2:=zh hF2;clear hF2
     by_cases hst:x.st=2
     ·have hd:(x.st==2)=true:=by simpa using hst
      have hE2:Hid (NP.end2 now x=⟨x.st,x.val,x.m,now,x.s,x.h⟩):=by unfold Hid NP.end2;rw[if_pos hst,hst]
      clear hst;obtain⟨W3,hW3,⟨_,n0,n1,n2,n3,n4,n5,_,_⟩,hb3,hz3,hc3⟩:=Ng w1 143 (.int .i64 x.st) (.int .i64 x.val) (.int .i64 x.m) (.int .i64 now) (.int .i64 x.s) (.slice sa x.h.length sc);have hF3:Fr (fun k=>k=L.mb) w7 W3:=hF1.off hb3;have hR3:Bb W3.drew L.mb w7.heap.size (Jm left f1 (NP.end2 now)) q' (fun j=>left j&&!(j==i)) cnt1:=(hR1.below hb3).below (Ab zb 1);have hr3:Cx W3.drew (.slice sa x.h.length sc) x.h:=(hrow.below hb3).below (Ab zb 1);have k3':=(HA7.out.map hF3 (fun k _ e=>e) hq' (hR1.below hb3).at).cells.2.2.2;have HF3:=zh hF3;have HR3:=zh hR3;have Hr3:=zh hr3;clear hF3 hR3 hr3 hR1 hrow hF1 hc3 hz3 hb3 hb2 hz2 S2 HR2 hR;go_wp2;rw[←hW3];clear hW3 hW2;go_still_tail 6,(by kernel_rfl)
      change wpList _ _ _ _ _ W3.drew
      go_wp2_with (at_mapUpdate;refine Kb rfl _ _ _ rfl (x:=⟨x.st,x.val,x.m,now,x.s,x.h⟩) (sl:=.slice sa x.h.length sc) rfl HR3.out rfl rfl hwi (by rw[Q8 hli,hgi];rfl) Hr3.out ?_;intro w5 hR5 hg5 hz5);rw[Xx hgi hE2.out] at hR5;have HR5:=zh hR5;have HF5:Hid (Fr (fun k=>k=L.mb) w7 w5):=(HF3.out.drewN 1).trans (Fr.grown hg5 (fun k e=>by injection e with e;exact e.symm));clear hR5 hg5 hz5;go_roundw
      case rel=>(repeat apply Exists.intro);exact⟨⟨_,cnt1,HR5.out,HF5.out⟩,rfl⟩
      case measure=>rw[HR5.out.left_eq,HR'.out.left_eq];exact hlt
     ·have hd:(x.st==2)=false:=by simpa using hst
      have hR3:Hid (Bb W2 L.mb w7.heap.size (Jm (fun j=>left j&&!(j==i)) f1 (NP.end2 now)) q' (fun j=>left j&&!(j==i)) cnt1):=by
       have h0:=HR2.out;rw[O9 hgi (by rw[NP.end2,if_neg hst])] at h0;exact h0
      clear hst;go_wp2;rw[←hW2];go_roundw
      case rel=>exact⟨_,cnt1,hR3.out,HF2.out⟩
      case measure=>rw[hR3.out.left_eq,HR'.out.left_eq];exact hlt
  ·intro i x sa sc w1 cnt1 hwi hli hgi hrow hR1 hlt hg1 hz1 hen
   rw[Q8 hli] at hgi;have HZ1:=zh hz1;clear hz1;have hF1:Fr (fun k=>k=L.mb) w w1:=HF.out.then (S':=fun k=>k=w.heap.size) (Fr.grown hg1 (fun k e=>by injection e with e;exact e.symm)) (fun i e=>Or.inr (by omega));obtain⟨W2,hW2,S2,hb2,hz2,hc2⟩:=Ng w1 143 (.int .i64 x.st) (.int .i64 x.val) (.int .i64 x.m) (.int .i64 x.d) (.int .i64 x.s) (.slice sa x.h.length sc);have hF2:Fr (fun k=>k=L.mb) w W2:=hF1.off hb2;have HR2:=zh (hR1.below hb2);clear hc2 hg1
   by_cases hst:x.st=2
   ·have hd:(x.st != 2)=false:=by simpa using hst
    have hck:=HC.out i x hgi hst;have hN2:=HR2.out.at;have hM2:=H.out.map hF2 (fun k _ e=>e) hq hN2;have hM3:=hM2.below (Ab zb 1);have hl3:=hM3.lt.1;obtain⟨ka,kb,kc,kd⟩:=hM3.cells;have k0:W2.drew.cell? ⟨L.cb,0,none⟩=some (.slice L.pa c.plan.length L.pc):=ka;have k3:W2.drew.cell? ⟨L.cb,3,none⟩=some (.map (some L.mb)):=kd;clear ka kb kc kd;have S3:=S2.below (Ab (Below.refl W2.heap.size W2) 1);have hl5:=S3.lt;have n1:W2.drew.cell? ⟨w1.heap.size,1,none⟩=some (.int .i64 x.val):=S3.c1;have n5:W2.drew.cell? ⟨w1.heap.size,5,none⟩=some (.slice sa x.h.length sc):=S3.c5;have hr3:Cx W2.drew (.slice sa x.h.length sc) x.h:=(hrow.below hb2).below (Ab zb 1);have C:=zh (zD9 ea sa x.h.length sc x.h (c.plan.length:Int) W2.drew (HG.out _ ((hF2.drewN 1).own (fun k _ e=>Or.inr (Or.inr e)))) rfl (Cd hr3) (Ac.owned hr3).2.2.1 (by have:=Rk hck;omega));have htc:Hid (tC (c.plan.length:Int) x.h=0):=by unfold Hid tC;rw[if_neg (by simp[hck]),if_pos hrl]
    have HF2:=zh hF2;have HM2:=zh hM2;have Hr3:=zh hr3;clear hck hN2 hM3 hF2 hM2 hr3 hrow hb2 S2 S3 hz2
    cases hsb:Da c.plan.length x.h
    ·have hE1:Hid (NP.end1 (Da c.plan.length) x=⟨0,x.val,0,0,0,[]⟩):=by unfold Hid NP.end1;rw[if_pos ⟨hst,hsb⟩]
     have HSB:Hid (decide (tB (c.plan.length:Int) x.h<tG (c.plan.length:Int) x.h)=false):=hsb;clear hsb hst;go_wp2;rw[←hW2];clear hW2
     go_region_held3 (fun w'=>w'.cell? ⟨L.cb,0,none⟩=some (.slice L.pa c.plan.length L.pc)∧w'.cell? ⟨w1.heap.size,5,none⟩=some (.slice sa x.h.length sc)) (go_keep)
      ((go_at_call 226;(with_reducible refine C.out.mono ?_);rintro e w3⟨v,rfl,hE,hb3⟩;have hE:=hE;rw[htc.out] at hE;obtain rfl:=hE.nil;rw[HSB.out];have d0:=(hb3.cell (p:=⟨L.cb,0,none⟩) hl3).trans k0;have d5:=(hb3.cell (p:=⟨w1.heap.size,5,none⟩) hl5).trans n5))
     have hb13:Below W2.heap.size W2 w3:=(Ab zb 1).trans hb3;have hR3:Hid (Bb w3.drew L.mb w.heap.size (Jm left c.f (NP.end1 (Da c.plan.length))) q (fun j=>left j&&!(j==i)) cnt1):=HR2.out.below (Ab hb13 1);have HF3:Hid (Fr (fun k=>k=L.mb) w w3):=HF2.out.off hb13;have e3:=(hb3.cell (p:=⟨L.cb,3,none⟩) hl3).trans k3;have e1:=(hb3.cell (p:=⟨w1.heap.size,1,none⟩) hl5).trans n1;clear hE hb3 hb13 d0 d5 k0 k3 n1 n5;go_wp2;go_still_tail 8,(by kernel_rfl)
     change wpList _ _ _ _ _ w3.drew
     go_wp2_with (at_mapUpdate;refine Kb rfl _ _ _ rfl (x:=⟨0,x.val,0,0,0,[]⟩) (sl:=.slice none 0 0) rfl hR3.out rfl rfl hwi (by rw[Q8 hli,hgi];rfl) (Cx.nil _) ?_;intro w5 hR5 hg5 hz5);rw[Xx hgi hE1.out] at hR5;have HR5:=zh hR5;have HF5:Hid (Fr (fun k=>k=L.mb) w w5):=(HF3.out.drewN 1).trans (Fr.grown hg5 (fun k e=>by injection e with e;exact e.symm));clear hR5 hg5 hz5;go_roundw
     case rel=>(repeat apply Exists.intro);exact⟨⟨_,cnt1,HR5.out,HF5.out⟩,rfl⟩
     case measure=>rw[HR5.out.left_eq,HR.out.left_eq];exact hlt
    ·have hE1:Hid (NP.end1 (Da c.plan.length) x=x):=by unfold Hid NP.end1;rw[if_neg (fun e=>by rw[hsb] at e;simp at e)]
     have HSB:Hid (decide (tB (c.plan.length:Int) x.h<tG (c.plan.length:Int) x.h)=true):=hsb;clear hsb hst;go_wp2;rw[←hW2];clear hW2
     go_region_held3 (fun w'=>w'.cell? ⟨L.cb,0,none⟩=some (.slice L.pa c.plan.length L.pc)∧w'.cell? ⟨w1.heap.size,5,none⟩=some (.slice sa x.h.length sc)) (go_keep)
      ((go_at_call 226;(with_reducible refine C.out.mono ?_);rintro e w3⟨v,rfl,hE,hb3⟩;have hE:=hE;rw[htc.out] at hE;obtain rfl:=hE.nil;rw[HSB.out];have d0:=(hb3.cell (p:=⟨L.cb,0,none⟩) hl3).trans k0;have d5:=(hb3.cell (p:=⟨w1.heap.size,5,none⟩) hl5).trans n5))
     have hb13:Below W2.heap.size W2 w3:=(Ab zb 1).trans hb3;have hR3:Bb w3 L.mb w.heap.size (Jm left c.f (NP.end1 (Da c.plan.length))) q (fun j=>left j&&!(j==i)) cnt1:=HR2.out.below hb13;rw[O9 hgi hE1.out] at hR3;have HR3:=zh hR3;have HF3:Hid (Fr (fun k=>k=L.mb) w w3):=HF2.out.off hb13;clear hE hb3 hb13 d0 d5 k0 k3 n1 n5 hR3;go_wp2;go_roundw
     case rel=>exact⟨_,cnt1,HR3.out,HF3.out⟩
     case measure=>rw[HR3.out.left_eq,HR.out.left_eq];exact hlt
   ·have hd:(x.st != 2)=true:=by simpa using hst
    have hR3:Hid (Bb W2 L.mb w.heap.size (Jm (fun j=>left j&&!(j==i)) c.f (NP.end1 (Da c.plan.length))) q (fun j=>left j&&!(j==i)) cnt1):=by
     have h0:=HR2.out;rw[O9 hgi (by rw[NP.end1,if_neg (fun e=>hst e.1)])] at h0;exact h0
    clear hst;go_wp2;rw[←hW2];have HF2:=zh hF2;go_roundw
    case rel=>exact⟨_,cnt1,hR3.out,HF2.out⟩
    case measure=>rw[hR3.out.left_eq,HR.out.left_eq];exact hlt
end Go.Proofs.YtppfkokfnoeopaaGreatDoor
namespace Go.Proofs.YtppfkokfnoeopaaGreatDoor
open Go.RowKit Go.Proofs.Tryz
def D9(ds:List Int)(f:Int→Option NP)(k:Int→NP→NP):Int→Option NP:=fun i=>if i∈ds then(f i).map (k i) else f i
theorem Oo(f:Int→Option NP)(k:Int→NP→NP):D9 [] f k=f:=funext fun i=>by simp[D9]
theorem L4{ds:List Int}{f:Int→Option NP}{k:Int→NP→NP}{i:Int}{x y:NP}(hf:f i=some x)(hy:k i x=y):Ge (D9 ds f k) i y=D9 (ds++[i]) f k:=funext fun j=>by
 unfold Ge D9
 by_cases e:j=i
 ·subst e;simp[hf,hy]
 ·simp[e]
theorem Mm{ds:List Int}{f:Int→Option NP}{k:Int→NP→NP}{i:Int}{x:NP}(hf:f i=some x)(hy:k i x=x):D9 ds f k=D9 (ds++[i]) f k:=funext fun j=>by
 unfold D9
 by_cases e:j=i
 ·subst e;simp[hf,hy]
 ·simp[e]
theorem Wg{ds:List Int}{f:Int→Option NP}{k:Int→NP→NP}{i:Int}(h:i∉ds):D9 ds f k i=f i:=if_neg h
theorem On{ds:List Int}{f:Int→Option NP}{k:Int→NP→NP}(h:∀i x,f i=some x→i∈ds):D9 ds f k=fun i=>(f i).map (k i):=funext fun i=>by
 unfold D9
 split
 ·rfl
 ·rename_i hn
  cases hf:f i with
  | none=>rfl
  | some x=>exact absurd (h i x hf) hn
end Go.Proofs.YtppfkokfnoeopaaGreatDoor
