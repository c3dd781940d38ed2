/- A part of a proof. -/
import Derived.Test.YtppfkokfnoeopaaGreatDoorDClusOps
import Derived.Test.YtppfkokfnoeopaaGreatDoorDRefBase
namespace Go.Proofs.YtppfkokfnoeopaaGreatDoor
open Go.RowKit Go.Maps
def CP.on(c:CP)(i:Int):NP×Nat:=match c.f i with
 | none=>(NP0,4)
 | some x=>if x.st=2 then(x,0) else(NP0,11)
set_option maxRecDepth 100000 in
set_option maxHeartbeats 1600000 in
theorem cOn1_any(ea:Nat→Addr)(L:CL)(c:CP)(i:Int)(w:World)(hg:Glob w ea [4,11])(h:ClusAt w L c)(hi:(Lit.int .i64 i).wf=true) :
 Calls Tryz.prog 107 #[.pointer (some ⟨L.cb,0,none⟩),.int .i64 i] w fun e w'=>∃sa sc,e=.returned (.tuple #[.agg #[.int .i64 (c.on i).1.st,.int .i64 (c.on i).1.val,.int .i64 (c.on i).1.m,.int .i64 (c.on i).1.d,.int .i64 (c.on i).1.s,.slice sa (c.on i).1.h.length sc],errV ea (c.on i).2])∧HRow w' (.slice sa (c.on i).1.h.length sc) (c.on i).1.h∧Below w.heap.size w w':=by
 obtain⟨c0,c1,c2,c3⟩:=h.cells;obtain⟨l1,l2,l3,l4⟩:=h.lt;obtain⟨q,hq,hN⟩:=h.nodes;have g4:=hg.cell 4 (by simp);have g2:=hg.cell 11 (by simp);have gl4:=hg.lt 4 (by simp);have gl2:=hg.lt 11 (by simp);simp only[gOf] at g4 g2 gl4 gl2;have hN1:=hN.below ((Below.refl _ _).alloc (Nat.le_refl _) (.cells #[.int .i64 0,.int .i64 0,.int .i64 0,.int .i64 0,.int .i64 0,.slice none 0 0] 143));have HN:=Lib.hid hN1;have HN0:=Lib.hid hN;clear h hN hN1
 cases hf:c.f i with
 | none=>
  have HS:Hid (c.on i=(NP0,4)):=by unfold Hid CP.on;rw[hf]
  have hlk:=HN.out.ok_none hi hf;clear hf;go_enter Tryz.func107,Tryz.ntmps107;go_wp2;obtain⟨W1,hW1,S1,hb1,hz1,_⟩:=new6 w 143 (.int .i64 0) (.int .i64 0) (.int .i64 0) (.int .i64 0) (.int .i64 0) (.slice none 0 0);rw[←hW1];obtain⟨W2,hW2,_,hb2,hz2,_⟩:=new6 W1 143 (.int .i64 0) (.int .i64 0) (.int .i64 0) (.int .i64 0) (.int .i64 0) (.slice none 0 0);rw[←hW2];have S2:=S1.below hb2;obtain⟨_,n0,n1,n2,n3,n4,n5,nf,nl⟩:=S2;have hb:Below w.heap.size w W2:=hb1.trans (hb2.mono hb1.size);have g4':=(hb.cell (p:=⟨4,0,none⟩) gl4).trans g4;clear hW1 hW2 hz1 hz2;go_region;go_wp2
  have HB:Hid (Below w.heap.size w ((((((W2.setCell ⟨w.heap.size,0,none⟩ (.int .i64 0)).setCell ⟨w.heap.size,1,none⟩ (.int .i64 0)).setCell ⟨w.heap.size,2,none⟩ (.int .i64 0)).setCell ⟨w.heap.size,3,none⟩ (.int .i64 0)).setCell ⟨w.heap.size,4,none⟩ (.int .i64 0)).setCell ⟨w.heap.size,5,none⟩ (.slice none 0 0)).drew):=
   (((((((hb.setCell (by simp) _).setCell (by simp) _).setCell (by simp) _).setCell (by simp) _).setCell (by simp) _).setCell (by simp) _)).drew
  clear hb hb1 hb2;refine bodyPost_ret (v:=.tuple #[.agg #[.int .i64 0,.int .i64 0,.int .i64 0,.int .i64 0,.int .i64 0,.slice none 0 0],errV ea 4]) (by simp[results,Tryz.results107,go_sem,n0,n1,n2,n3,n4,n5]) rfl ?_;rw[HS.out];exact⟨none,0,rfl,HRow.nil _,HB.out⟩
 | some x=>
  obtain⟨sa,sc,hlk0,hrow⟩:=HN0.out.ok_some' hi hf;have hlk:=hlk0 _ ((Below.refl _ _).alloc (Nat.le_refl _) (.cells #[.int .i64 0,.int .i64 0,.int .i64 0,.int .i64 0,.int .i64 0,.slice none 0 0] 143));clear hlk0;have HR:=Lib.hid hrow;clear hrow
  by_cases hv:x.st=2
  ·have HS:Hid (c.on i=(x,0)):=by unfold Hid CP.on;rw[hf];simp only[hv,if_true]
   clear hf;have hd:(x.st != 2)=false:=by simpa using hv
   clear hv;go_enter Tryz.func107,Tryz.ntmps107;go_wp2;refine bodyPost_ret (v:=.tuple #[.agg #[.int .i64 x.st,.int .i64 x.val,.int .i64 x.m,.int .i64 x.d,.int .i64 x.s,.slice sa x.h.length sc],.nilIface]) (by simp[results,Tryz.results107,go_sem]) rfl ?_;rw[HS.out];have hb:Below w.heap.size w ((w.alloc (.cells #[.int .i64 x.st,.int .i64 x.val,.int .i64 x.m,.int .i64 x.d,.int .i64 x.s,.slice sa x.h.length sc] 143)).alloc (.cells #[.int .i64 x.st,.int .i64 x.val,.int .i64 x.m,.int .i64 x.d,.int .i64 x.s,.slice sa x.h.length sc] 143)):=((Below.refl _ _).alloc (Nat.le_refl _) _).alloc (by simp) _;exact⟨sa,sc,(errV_zero ea).symm▸rfl,HR.out.below hb,hb⟩
  ·have HS:Hid (c.on i=(NP0,11)):=by unfold Hid CP.on;rw[hf];simp only[hv,if_false]
   clear hf;have hd:(x.st != 2)=true:=by simpa using hv
   clear hv;go_enter Tryz.func107,Tryz.ntmps107;go_wp2;obtain⟨W1,hW1,S1,hb1,hz1,_⟩:=new6 w 143 (.int .i64 0) (.int .i64 0) (.int .i64 0) (.int .i64 0) (.int .i64 0) (.slice none 0 0);rw[←hW1];obtain⟨W2,hW2,_,hb2,hz2,_⟩:=new6 W1 143 (.int .i64 x.st) (.int .i64 x.val) (.int .i64 x.m) (.int .i64 x.d) (.int .i64 x.s) (.slice sa x.h.length sc);rw[←hW2];have S2:=S1.below hb2;obtain⟨_,n0,n1,n2,n3,n4,n5,nf,nl⟩:=S2;have hb:Below w.heap.size w W2:=hb1.trans (hb2.mono hb1.size);have g2':=(hb.cell (p:=⟨10,0,none⟩) gl2).trans g2;clear hW1 hW2 hz1 hz2;go_region;go_wp2
   have HB:Hid (Below w.heap.size w ((((((W2.setCell ⟨w.heap.size,0,none⟩ (.int .i64 0)).setCell ⟨w.heap.size,1,none⟩ (.int .i64 0)).setCell ⟨w.heap.size,2,none⟩ (.int .i64 0)).setCell ⟨w.heap.size,3,none⟩ (.int .i64 0)).setCell ⟨w.heap.size,4,none⟩ (.int .i64 0)).setCell ⟨w.heap.size,5,none⟩ (.slice none 0 0)).drew):=
    (((((((hb.setCell (by simp) _).setCell (by simp) _).setCell (by simp) _).setCell (by simp) _).setCell (by simp) _).setCell (by simp) _)).drew
   clear hb hb1 hb2;refine bodyPost_ret (v:=.tuple #[.agg #[.int .i64 0,.int .i64 0,.int .i64 0,.int .i64 0,.int .i64 0,.slice none 0 0],errV ea 11]) (by simp[results,Tryz.results107,go_sem,n0,n1,n2,n3,n4,n5]) rfl ?_;rw[HS.out];exact⟨none,0,rfl,HRow.nil _,HB.out⟩
theorem own3{w w1:World}{x y z:Value}{t:TypeId}(hb:Below (w.alloc (.cells #[x,y,z] t)).heap.size (w.alloc (.cells #[x,y,z] t)) w1) :
 w1.cell? ⟨w.heap.size,0,none⟩=some x∧w1.cell? ⟨w.heap.size,1,none⟩=some y∧w1.cell? ⟨w.heap.size,2,none⟩=some z∧w1.frozen? ⟨w.heap.size,0,none⟩=false∧w1.frozen? ⟨w.heap.size,1,none⟩=false∧w1.frozen? ⟨w.heap.size,2,none⟩=false∧w.heap.size<w1.heap.size∧Below w.heap.size w w1:=
 ⟨(hb.cell (p:=⟨w.heap.size,0,none⟩) (by simp)).trans (by simp),(hb.cell (p:=⟨w.heap.size,1,none⟩) (by simp)).trans (by simp),(hb.cell (p:=⟨w.heap.size,2,none⟩) (by simp)).trans (by simp),
   (hb.frozen (p:=⟨w.heap.size,0,none⟩) (by simp)).trans (by simp),(hb.frozen (p:=⟨w.heap.size,1,none⟩) (by simp)).trans (by simp),(hb.frozen (p:=⟨w.heap.size,2,none⟩) (by simp)).trans (by simp),
   by have:=hb.size;simp at this;omega,((Below.refl _ _).alloc (Nat.le_refl _) _).trans (hb.mono (by simp))⟩
set_option maxRecDepth 100000 in
set_option maxHeartbeats 1600000 in
theorem cView_any(ea:Nat→Addr)(L:CL)(c:CP)(i:Int)(w:World)(hg:Glob w ea [4,11])(h:ClusAt w L c)(hi:(Lit.int .i64 i).wf=true) :
 Calls Tryz.prog 58 #[.pointer (some ⟨L.cb,0,none⟩),.int .i64 i] w fun e w'=>e=.returned (.tuple #[.agg #[.int .i64 (c.on i).1.m,.int .i64 (c.on i).1.d,.int .i64 (c.on i).1.s],errV ea (c.on i).2])∧Below w.heap.size w w':=by
 have hb0:Below w.heap.size w (w.alloc (.cells #[.int .i64 0,.int .i64 0,.int .i64 0] 96)):=(Below.refl _ _).alloc (Nat.le_refl _) _;have C:=Lib.hid (cOn1_any ea L c i _ (hg.below hb0) (h.below hb0) hi);clear h hg hb0;generalize c.on i=r at *;obtain⟨x,k⟩:=r;dsimp only at C ⊢;go_enter Tryz.func58,Tryz.ntmps58;go_wp2_with fail;refine C.out.mono ?_;rintro e w1⟨sa,sc,rfl,hr,hb⟩;obtain⟨n0,n1,n2,f0,f1,f2,nl,hb1⟩:=own3 hb;have d0:(w1.alloc (.cells #[.int .i64 x.st,.int .i64 x.val,.int .i64 x.m,.int .i64 x.d,.int .i64 x.s,.slice sa x.h.length sc] 143)).cell? ⟨w.heap.size,0,none⟩=some (.int .i64 0):=(World.cell?_alloc_lt _ _ ⟨w.heap.size,0,none⟩ nl).trans n0;have d1:(w1.alloc (.cells #[.int .i64 x.st,.int .i64 x.val,.int .i64 x.m,.int .i64 x.d,.int .i64 x.s,.slice sa x.h.length sc] 143)).cell? ⟨w.heap.size,1,none⟩=some (.int .i64 0):=(World.cell?_alloc_lt _ _ ⟨w.heap.size,1,none⟩ nl).trans n1;have d2:(w1.alloc (.cells #[.int .i64 x.st,.int .i64 x.val,.int .i64 x.m,.int .i64 x.d,.int .i64 x.s,.slice sa x.h.length sc] 143)).cell? ⟨w.heap.size,2,none⟩=some (.int .i64 0):=(World.cell?_alloc_lt _ _ ⟨w.heap.size,2,none⟩ nl).trans n2
 have r0:∀(x y z:Value) (o:Obj),((((w1.setCell ⟨w.heap.size,0,none⟩ x).setCell ⟨w.heap.size,1,none⟩ y).setCell ⟨w.heap.size,2,none⟩ z).alloc o).cell? ⟨w.heap.size,0,none⟩=some x:=fun x y z o=>by
  rw[World.cell?_alloc_lt _ _ ⟨w.heap.size,0,none⟩ (by simpa using nl)];go_simp
 have r1:∀(x y z:Value) (o:Obj),((((w1.setCell ⟨w.heap.size,0,none⟩ x).setCell ⟨w.heap.size,1,none⟩ y).setCell ⟨w.heap.size,2,none⟩ z).alloc o).cell? ⟨w.heap.size,1,none⟩=some y:=fun x y z o=>by
  rw[World.cell?_alloc_lt _ _ ⟨w.heap.size,1,none⟩ (by simpa using nl)];go_simp
 have r2:∀(x y z:Value) (o:Obj),((((w1.setCell ⟨w.heap.size,0,none⟩ x).setCell ⟨w.heap.size,1,none⟩ y).setCell ⟨w.heap.size,2,none⟩ z).alloc o).cell? ⟨w.heap.size,2,none⟩=some z:=fun x y z o=>by
  rw[World.cell?_alloc_lt _ _ ⟨w.heap.size,2,none⟩ (by simpa using nl)];go_simp
 have R0:=Lib.hid r0;have R1:=Lib.hid r1;have R2:=Lib.hid r2;clear hr hb r0 r1 r2;go_wp2;refine bodyPost_ret (v:=.tuple #[.agg #[.int .i64 x.m,.int .i64 x.d,.int .i64 x.s],errV ea k]) (by simp[results,Tryz.results58,go_sem,R0.out,R1.out,R2.out]) rfl ?_;exact⟨rfl,(((hb1.setCell (by simp) _).setCell (by simp) _).setCell (by simp) _).alloc (by have:=hb1.size;simp;omega) _⟩
theorem cHist_any(ea:Nat→Addr)(L:CL)(c:CP)(i:Int)(w:World)(hg:Glob w ea [4,11])(h:ClusAt w L c)(hi:(Lit.int .i64 i).wf=true)(hl:(c.on i).1.h.length≤1000) :
 Calls Tryz.prog 59 #[.pointer (some ⟨L.cb,0,none⟩),.int .i64 i] w fun e w'=>∃a cap,e=.returned (.tuple #[.slice a (c.on i).1.h.length cap,errV ea (c.on i).2])∧RowAt w' a (encEnts (c.on i).1.h)∧(c.on i).1.h.length≤cap∧Below w.heap.size w w':=by
 have C:=Lib.hid (cOn1_any ea L c i _ hg h hi);clear h hg;generalize c.on i=r at *;obtain⟨x,k⟩:=r;dsimp only at C hl ⊢;have KC:=Lib.hid (fun(W:World) (a:Option Addr) (cap:Nat) (hr:RowAt W a (encEnts x.h))=>cloneEnts_any a x.h.length cap x.h W rfl hr (by omega));go_enter Tryz.func59,Tryz.ntmps59;go_wp2_with fail;refine C.out.mono ?_;rintro e w1⟨sa,sc,rfl,hr,hb⟩;have hb2:Below w1.heap.size w1 (w1.alloc (.cells #[.int .i64 x.st,.int .i64 x.val,.int .i64 x.m,.int .i64 x.d,.int .i64 x.s,.slice sa x.h.length sc] 143)):=(Below.refl _ _).alloc (Nat.le_refl _) _;have K2:=Lib.hid (KC.out _ sa sc (ownsRow_at (hr.below hb2)));clear KC;go_wp2_with fail;refine K2.out.mono ?_;rintro e w2⟨a',cap',rfl,hr2,hc2,hb3⟩;go_wp2;go_ret2;exact⟨a',cap',rfl,hr2,hc2,onto (onto hb hb2) hb3⟩
def stT(k:Int):List UInt8:=if k=0 then[111,102,102] else if k=1 then[108,105,115,116,101,110,115] else[97,99,116,105,118,101]
def CP.stT(c:CP)(i:Int):List UInt8:=match c.f i with
 | none=>[]
 | some x=>Go.Proofs.YtppfkokfnoeopaaGreatDoor.stT x.st
set_option maxRecDepth 100000 in
set_option maxHeartbeats 1600000 in
theorem idx_states(k:Int)(hk:k=0∨k=1∨k=2)(W:World):(Instr.index 162 (.agg #[.string ⟨#[111,102,102]⟩,.string ⟨#[108,105,115,116,101,110,115]⟩,.string ⟨#[97,99,116,105,118,101]⟩]) (.int .i64 k)).run Tryz.prog W=.ok (.string ⟨(stT k).toArray⟩) W:=by
 rcases hk with rfl|rfl|rfl<;>kernel_rfl
set_option maxRecDepth 100000 in
set_option maxHeartbeats 1600000 in
theorem cState_any(L:CL)(c:CP)(i:Int)(w:World)(h:ClusAt w L c)(hi:(Lit.int .i64 i).wf=true)(hs:∀x,c.f i=some x→x.st=0∨x.st=1∨x.st=2) :
 Calls Tryz.prog 49 #[.pointer (some ⟨L.cb,0,none⟩),.int .i64 i] w fun e w'=>e=.returned (.string ⟨(c.stT i).toArray⟩)∧Below w.heap.size w w':=by
 obtain⟨c0,c1,c2,c3⟩:=h.cells;obtain⟨q,hq,hN⟩:=h.nodes;have HN:=Lib.hid hN;clear h hN
 cases hf:c.f i with
 | none=>
  have HS:Hid (c.stT i=[]):=by unfold Hid CP.stT;rw[hf]
  have hlk:=HN.out.ok_none hi hf;clear hf hs;go_enter Tryz.func49,Tryz.ntmps49;go_wp2;go_ret;rw[HS.out];exact⟨rfl,(Below.refl _ _).alloc (Nat.le_refl _) _⟩
 | some x=>
  have HS:Hid (c.stT i=Go.Proofs.YtppfkokfnoeopaaGreatDoor.stT x.st):=by unfold Hid CP.stT;rw[hf]
  obtain⟨sa,sc,hlk,_⟩:=HN.out.ok_some hi hf;have hs:=hs x hf;clear hf;obtain⟨st,val,m,d,s,hh⟩:=x;dsimp only at hs hlk HS;have hx:=fun W=>idx_states st hs W
  clear hs;go_enter Tryz.func49,Tryz.ntmps49;go_wp2;go_ret;rw[HS.out];exact⟨rfl,(Below.refl _ _).alloc (Nat.le_refl _) _⟩
end Go.Proofs.YtppfkokfnoeopaaGreatDoor
