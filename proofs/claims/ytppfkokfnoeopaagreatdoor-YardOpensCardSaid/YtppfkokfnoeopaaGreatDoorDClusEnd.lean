/- A part of a proof. -/
import Derived.Test.YtppfkokfnoeopaaGreatDoorDPlan
import Derived.Test.YtppfkokfnoeopaaGreatDoorDClusTell
import Derived.Test.YtppfkokfnoeopaaGreatDoorDTally
namespace Go.Proofs.YtppfkokfnoeopaaGreatDoor
open Go.RowKit Go.Maps
def stayB(r:Nat)(h:List Ent):Bool:=decide (tB r h<tG r h)
def NP.end1(stays:List Ent→Bool)(x:NP):NP:=if x.st=2∧stays x.h=false then⟨0,x.val,0,0,0,[]⟩ else x
def NP.end2(now:Int)(x:NP):NP:=if x.st=2 then⟨2,x.val,x.m,now,x.s,x.h⟩ else x
theorem endR_two(stays:List Ent→Bool)(now:Int)(x:NP):NP.endR stays now x=NP.end2 now (NP.end1 stays x):=by
 unfold NP.endR NP.end1
 by_cases h:x.st=2
 ·rw[if_pos h]
  cases hs:stays x.h
  ·rw[if_neg (by simp),if_pos ⟨h,rfl⟩,NP.end2,if_neg (by simp)]
  ·rw[if_pos rfl,if_neg (by simp),NP.end2,if_pos h]
 ·rw[if_neg h,if_neg (fun e=>h e.1),NP.end2,if_neg h]
def half(left:Int→Bool)(f:Int→Option NP)(k:NP→NP):Int→Option NP:=fun i=>if left i then f i else(f i).map k
theorem half_start(f:Int→Option NP)(k:NP→NP):half (fun i=>(f i).isSome) f k=f:=funext fun i=>by
 unfold half
 by_cases h:(f i).isSome=true
 ·rw[if_pos h]
 ·rw[if_neg h]
  have e:f i=none:=by cases hf:f i<;>simp_all
  rw[e];rfl
theorem half_end{left:Int→Bool}(h:∀i,left i=false)(f:Int→Option NP)(k:NP→NP):half left f k=fun i=>(f i).map k:=funext fun i=>by
 unfold half;rw[h i];rfl
theorem half_put{left:Int→Bool}{f:Int→Option NP}{k:NP→NP}{i:Int}{x y:NP}(hf:f i=some x)(hy:k x=y):putN (half left f k) i y=half (fun j=>left j&&!(j==i)) f k:=funext fun j=>by
 unfold putN half
 by_cases e:j=i
 ·subst e;simp[hf,hy]
 ·have e2:(j==i)=false:=by simpa using e
  simp[e,e2]
theorem half_skip{left:Int→Bool}{f:Int→Option NP}{k:NP→NP}{i:Int}{x:NP}(hf:f i=some x)(hy:k x=x):half left f k=half (fun j=>left j&&!(j==i)) f k:=funext fun j=>by
 unfold half
 by_cases e:j=i
 ·subst e;rw[hf,Option.map_some,hy];simp
 ·have e2:(j==i)=false:=by simpa using e
  simp[e2]
theorem half_at{left:Int→Bool}{f:Int→Option NP}{k:NP→NP}{i:Int}(hl:left i=true):half left f k i=f i:=by unfold half;rw[hl];rfl
theorem chk_lenC{es:List Ent}(h:(chk es).1=0):es.length≤200:=by
 unfold chk at h
 split at h
 ·simp at h
 ·omega
set_option maxRecDepth 100000 in
set_option maxHeartbeats 6400000 in
theorem cEnded_any(ea:Nat→Addr)(L:CL)(c:CP)(w:World)(hg:∀W,Fr L.own w W→Glob W ea [7,10,4,2,3])(h:ClusAt w L c)(hp:(planF c.plan).1=0)(hc:∀i x,c.f i=some x→x.st=2→(chk x.h).1=0)(hk:c.asked=-1∨0≤c.asked) :
 Calls Tryz.prog 186 #[.pointer (some ⟨L.cb,0,none⟩)] w fun e w'=>e=.returned .nilIface∧ClusAt w' L ⟨c.plan,c.time,c.turned,-1,fun i=>(c.f i).map (NP.endR (stayB c.plan.length) c.turned)⟩∧Fr L.own w w':=by
 obtain⟨c0,c1,c2,c3⟩:=h.cells;obtain⟨l1,l2,l3,l4⟩:=h.lt;obtain⟨q,hq,hN⟩:=h.nodes;obtain⟨p1,p2,p3,p4,p5,p6⟩:=h.apart;have hrl:1≤(c.plan.length:Int)∧(c.plan.length:Int)≤32:=by have:=planF_ok hp;omega
 have HN:=Lib.hid hN;have H:=Lib.hid h;have HC:=Lib.hid hc;have HG:=Lib.hid hg;have HP:=Lib.hid hp;clear h hN hc hg hp;go_enter Tryz.func186,Tryz.ntmps186;go_wp2_with (at_range;refine wpList_range_p rfl _ rfl rfl HN.out ?_;intro w0 hR0 hb0 hz0);go_frame;have hR0':RangeP w0 L.mb w.heap.size (half (fun i=>(c.f i).isSome) c.f (NP.end1 (stayB c.plan.length))) q (fun i=>(c.f i).isSome) q:=by rw[half_start];exact hR0
 go_loopw [15] (fun _ wr=>∃(left:Int→Bool) (cnt:Nat),RangeP wr L.mb w.heap.size (half left c.f (NP.end1 (stayB c.plan.length))) q left cnt∧Fr (fun k=>k=L.mb) w wr) (fun _ wr=>wr.rangeLeft L.mb w.heap.size)
 case atStart=>exact⟨_,q,hR0',Fr.of hb0⟩
 case round=>
  clear hR0 hb0 hz0 hR0';obtain⟨left,cnt,hR,hF⟩:=hrel;have HR:=Lib.hid hR;have HF:=Lib.hid hF;clear hF;go_wp2_with (at_next;refine wpList_next_p rfl _ rfl rfl hR ?_ ?_)
  ·intro hc0 hl0
   clear hR;obtain⟨f1,hf1⟩:∃f1,f1=fun i=>(c.f i).map (NP.end1 (stayB c.plan.length)):=⟨_,rfl⟩
   have hN1:NodesP wr L.mb f1 q:=by
    have h0:=HR.out.at;rw[half_end hl0,←hf1] at h0;exact h0
   have hM:=H.out.map HF.out (fun k _ e=>e) hq hN1;obtain⟨k0,k1,k2,k3⟩:=hM.cells;obtain⟨t1,t2,t3,t4⟩:=hM.lt;have C:=Lib.hid (turn_m L.bb L.mm allPairs c.now c.asked wr hM.board hk);have HM:=Lib.hid hM;have HF1:=Lib.hid hf1;clear hl0 hN1 hM hf1;go_wp2_with fail;refine C.out.mono ?_;rintro e w7⟨rfl,hB7,hg7,hb7,hz7⟩;have hF7:Fr L.own w w7:=(HF.out.own (fun k _ e=>Or.inr (Or.inr e))).trans (Fr.grown hg7 (fun k e=>Or.inr (Or.inl (by injection e with e;exact e.symm))))
   have hA7:ClusAt w7 L ⟨c.plan,c.time,turnNow c.now c.asked,-1,f1⟩:=by
    have hr:=HM.out.rows;obtain⟨a1,a2,a3,⟨q',hq',a4⟩,a6⟩:=HM.out;have hf:Fr (fun k=>k=L.bb) wr w7:=Fr.grown hg7 (fun k e=>by injection e with e;exact e.symm);exact⟨(hf.block L.cb t1 (fun e=>p1 e.symm)).trans a1,ownsRow_fr a2 hf (fun k cur hk e=>hr k cur _ hk (Or.inl rfl) (Or.inr (Or.inl e))),hB7,⟨q',hq',a4.fr hf p3 (fun k cur hk e=>hr k cur _ hk (Or.inr rfl) (Or.inr (Or.inl e)))⟩,a6⟩
   clear hB7 hg7 hb7 hz7 k0 k1 k2 k3;have HF7:=Lib.hid hF7;have HT:Hid (c.turned=turnNow c.now c.asked):=rfl;generalize turnNow c.now c.asked=now at *;obtain⟨k0,k1,k2,k3⟩:=hA7.cells;have t5:=hA7.lt.1;obtain⟨q',hq',hN7⟩:=hA7.nodes;have HN7:=Lib.hid hN7;have HA7:=Lib.hid hA7;clear hF7 hN7 hA7;dsimp only at k0 k1 HN7;go_wp2_with (at_range;refine wpList_range_p rfl _ rfl rfl HN7.out ?_;intro w8 hR8 hb8 hz8);go_frame;have hR8':RangeP w8 L.mb w7.heap.size (half (fun i=>(f1 i).isSome) f1 (NP.end2 now)) q' (fun i=>(f1 i).isSome) q':=by rw[half_start];exact hR8
   go_loopw [57] (fun _ wr=>∃(left:Int→Bool) (cnt:Nat),RangeP wr L.mb w7.heap.size (half left f1 (NP.end2 now)) q' left cnt∧Fr (fun k=>k=L.mb) w7 wr) (fun _ wr=>wr.rangeLeft L.mb w7.heap.size)
   case atStart=>exact⟨_,q',hR8',Fr.of hb8⟩
   case round=>
    clear hR8 hb8 hz8 hR8';obtain⟨left,cnt,hR,hF⟩:=hrel;have HR':=Lib.hid hR;have HF':=Lib.hid hF;clear hF;go_wp2_with (at_next;refine wpList_next_p rfl _ rfl rfl hR ?_ ?_)
    ·intro hc0 hl0
     have hN9:=HR'.out.at;rw[half_end hl0] at hN9;have hM9:=HA7.out.map HF'.out (fun k _ e=>e) hq' hN9
     have hfx:(fun i=>(f1 i).map (NP.end2 now))=fun i=>(c.f i).map (NP.endR (stayB c.plan.length) c.turned):=funext fun i=>by
      rw[HF1.out,HT.out];dsimp only;rw[Option.map_map];congr 1;funext x;exact(endR_two _ _ _).symm
     have HM9:=Lib.hid hM9;have HFX:=Lib.hid hfx;clear hc0 hl0 hN9 hM9 hfx hR;go_wp2;go_ret;have h9:=HM9.out;rw[HFX.out] at h9;rw[HT.out] at h9 ⊢;exact⟨rfl,h9,HF7.out.trans (HF'.out.own (fun k _ e=>Or.inr (Or.inr e)))⟩
    ·intro i x sa sc w1 cnt1 hwi hli hgi hrow hR1 hlt hg1 hz1 hen
     rw[half_at hli] at hgi;have HZ1:=Lib.hid hz1;clear hz1;have hF1:Fr (fun k=>k=L.mb) w7 w1:=HF'.out.then (S':=fun k=>k=w7.heap.size) (Fr.grown hg1 (fun k e=>by injection e with e;exact e.symm)) (fun i e=>Or.inr (by omega));obtain⟨W2,hW2,S2,hb2,hz2,hc2⟩:=new6 w1 143 (.int .i64 x.st) (.int .i64 x.val) (.int .i64 x.m) (.int .i64 x.d) (.int .i64 x.s) (.slice sa x.h.length sc);have hF2:Fr (fun k=>k=L.mb) w7 W2:=hF1.off hb2;have HR2:=Lib.hid (hR1.below hb2);clear hc2 hg1;have HF2:=Lib.hid hF2;clear hF2
     by_cases hst:x.st=2
     ·have hd:(x.st==2)=true:=by simpa using hst
      have hE2:Hid (NP.end2 now x=⟨x.st,x.val,x.m,now,x.s,x.h⟩):=by unfold Hid NP.end2;rw[if_pos hst,hst]
      clear hst;obtain⟨W3,hW3,⟨_,n0,n1,n2,n3,n4,n5,_,_⟩,hb3,hz3,hc3⟩:=new6 w1 143 (.int .i64 x.st) (.int .i64 x.val) (.int .i64 x.m) (.int .i64 now) (.int .i64 x.s) (.slice sa x.h.length sc);have hF3:Fr (fun k=>k=L.mb) w7 W3:=hF1.off hb3;have hR3:RangeP W3.drew L.mb w7.heap.size (half left f1 (NP.end2 now)) q' (fun j=>left j&&!(j==i)) cnt1:=(hR1.below hb3).below (below_drewN (Below.refl _ _) 1);have hr3:HRow W3.drew (.slice sa x.h.length sc) x.h:=(hrow.below hb3).below (below_drewN (Below.refl _ _) 1);have k3':=(HA7.out.map hF3 (fun k _ e=>e) hq' (hR1.below hb3).at).cells.2.2.2;have HF3:=Lib.hid hF3;have HR3:=Lib.hid hR3;have Hr3:=Lib.hid hr3;clear hF3 hR3 hr3 hR1 hrow hF1 hc3 hz3 hb3 hb2 hz2 S2 HR2 hR;go_wp2;rw[←hW3];clear hW3 hW2;go_still_tail 6,(by kernel_rfl)
      change wpList _ _ _ _ _ W3.drew
      go_wp2_with (at_mapUpdate;refine wpList_put_range rfl _ _ _ rfl (x:=⟨x.st,x.val,x.m,now,x.s,x.h⟩) (sl:=.slice sa x.h.length sc) rfl HR3.out rfl rfl hwi (by rw[half_at hli,hgi];rfl) Hr3.out ?_;intro w5 hR5 hg5 hz5);rw[half_put hgi hE2.out] at hR5;have HR5:=Lib.hid hR5;have HF5:Hid (Fr (fun k=>k=L.mb) w7 w5):=(HF3.out.drewN 1).trans (Fr.grown hg5 (fun k e=>by injection e with e;exact e.symm));clear hR5 hg5 hz5;go_roundw
      case rel=>(repeat apply Exists.intro);exact⟨⟨_,cnt1,HR5.out,HF5.out⟩,rfl⟩
      case measure=>rw[HR5.out.left_eq,HR'.out.left_eq];exact hlt
     ·have hd:(x.st==2)=false:=by simpa using hst
      have hR3:Hid (RangeP W2 L.mb w7.heap.size (half (fun j=>left j&&!(j==i)) f1 (NP.end2 now)) q' (fun j=>left j&&!(j==i)) cnt1):=by
       have h0:=HR2.out;rw[half_skip hgi (by rw[NP.end2,if_neg hst])] at h0;exact h0
      clear hst;go_wp2;rw[←hW2];go_roundw
      case rel=>exact⟨_,cnt1,hR3.out,HF2.out⟩
      case measure=>rw[hR3.out.left_eq,HR'.out.left_eq];exact hlt
  ·intro i x sa sc w1 cnt1 hwi hli hgi hrow hR1 hlt hg1 hz1 hen
   rw[half_at hli] at hgi;have HZ1:=Lib.hid hz1;clear hz1;have hF1:Fr (fun k=>k=L.mb) w w1:=HF.out.then (S':=fun k=>k=w.heap.size) (Fr.grown hg1 (fun k e=>by injection e with e;exact e.symm)) (fun i e=>Or.inr (by omega));obtain⟨W2,hW2,S2,hb2,hz2,hc2⟩:=new6 w1 143 (.int .i64 x.st) (.int .i64 x.val) (.int .i64 x.m) (.int .i64 x.d) (.int .i64 x.s) (.slice sa x.h.length sc);have hF2:Fr (fun k=>k=L.mb) w W2:=hF1.off hb2;have HR2:=Lib.hid (hR1.below hb2);clear hc2 hg1
   by_cases hst:x.st=2
   ·have hd:(x.st != 2)=false:=by simpa using hst
    have hck:=HC.out i x hgi hst;have hN2:=HR2.out.at;have hM2:=H.out.map hF2 (fun k _ e=>e) hq hN2;have hM3:=hM2.below (below_drewN (Below.refl _ _) 1);have hl3:=hM3.lt.1;obtain⟨ka,kb,kc,kd⟩:=hM3.cells;have k0:W2.drew.cell? ⟨L.cb,0,none⟩=some (.slice L.pa c.plan.length L.pc):=ka;have k3:W2.drew.cell? ⟨L.cb,3,none⟩=some (.map (some L.mb)):=kd;clear ka kb kc kd;have S3:=S2.below (below_drewN (Below.refl W2.heap.size W2) 1);have hl5:=S3.lt;have n1:W2.drew.cell? ⟨w1.heap.size,1,none⟩=some (.int .i64 x.val):=S3.c1;have n5:W2.drew.cell? ⟨w1.heap.size,5,none⟩=some (.slice sa x.h.length sc):=S3.c5;have hr3:HRow W2.drew (.slice sa x.h.length sc) x.h:=(hrow.below hb2).below (below_drewN (Below.refl _ _) 1);have C:=Lib.hid (stays_any ea sa x.h.length sc x.h (c.plan.length:Int) W2.drew (HG.out _ ((hF2.drewN 1).own (fun k _ e=>Or.inr (Or.inr e)))) rfl (ownsRow_at hr3) (RowAt.owned hr3).2.2.1 (by have:=chk_lenC hck;omega));have htc:Hid (tC (c.plan.length:Int) x.h=0):=by unfold Hid tC;rw[if_neg (by simp[hck]),if_pos hrl]
    have HF2:=Lib.hid hF2;have HM2:=Lib.hid hM2;have Hr3:=Lib.hid hr3;clear hck hN2 hM3 hF2 hM2 hr3 hrow hb2 S2 S3 hz2
    cases hsb:stayB c.plan.length x.h
    ·have hE1:Hid (NP.end1 (stayB c.plan.length) x=⟨0,x.val,0,0,0,[]⟩):=by unfold Hid NP.end1;rw[if_pos ⟨hst,hsb⟩]
     have HSB:Hid (decide (tB (c.plan.length:Int) x.h<tG (c.plan.length:Int) x.h)=false):=hsb;clear hsb hst;go_wp2;rw[←hW2];clear hW2
     go_region_held3 (fun w'=>w'.cell? ⟨L.cb,0,none⟩=some (.slice L.pa c.plan.length L.pc)∧w'.cell? ⟨w1.heap.size,5,none⟩=some (.slice sa x.h.length sc)) (go_keep)
      ((go_at_call 226;(with_reducible refine C.out.mono ?_);rintro e w3⟨v,rfl,hE,hb3⟩;have hE:=hE;rw[htc.out] at hE;obtain rfl:=hE.nil;rw[HSB.out];have d0:=(hb3.cell (p:=⟨L.cb,0,none⟩) hl3).trans k0;have d5:=(hb3.cell (p:=⟨w1.heap.size,5,none⟩) hl5).trans n5))
     have hb13:Below W2.heap.size W2 w3:=(below_drewN (Below.refl _ _) 1).trans hb3;have hR3:Hid (RangeP w3.drew L.mb w.heap.size (half left c.f (NP.end1 (stayB c.plan.length))) q (fun j=>left j&&!(j==i)) cnt1):=HR2.out.below (below_drewN hb13 1);have HF3:Hid (Fr (fun k=>k=L.mb) w w3):=HF2.out.off hb13;have e3:=(hb3.cell (p:=⟨L.cb,3,none⟩) hl3).trans k3;have e1:=(hb3.cell (p:=⟨w1.heap.size,1,none⟩) hl5).trans n1;clear hE hb3 hb13 d0 d5 k0 k3 n1 n5;go_wp2;go_still_tail 8,(by kernel_rfl)
     change wpList _ _ _ _ _ w3.drew
     go_wp2_with (at_mapUpdate;refine wpList_put_range rfl _ _ _ rfl (x:=⟨0,x.val,0,0,0,[]⟩) (sl:=.slice none 0 0) rfl hR3.out rfl rfl hwi (by rw[half_at hli,hgi];rfl) (HRow.nil _) ?_;intro w5 hR5 hg5 hz5);rw[half_put hgi hE1.out] at hR5;have HR5:=Lib.hid hR5;have HF5:Hid (Fr (fun k=>k=L.mb) w w5):=(HF3.out.drewN 1).trans (Fr.grown hg5 (fun k e=>by injection e with e;exact e.symm));clear hR5 hg5 hz5;go_roundw
     case rel=>(repeat apply Exists.intro);exact⟨⟨_,cnt1,HR5.out,HF5.out⟩,rfl⟩
     case measure=>rw[HR5.out.left_eq,HR.out.left_eq];exact hlt
    ·have hE1:Hid (NP.end1 (stayB c.plan.length) x=x):=by unfold Hid NP.end1;rw[if_neg (fun e=>by rw[hsb] at e;simp at e)]
     have HSB:Hid (decide (tB (c.plan.length:Int) x.h<tG (c.plan.length:Int) x.h)=true):=hsb;clear hsb hst;go_wp2;rw[←hW2];clear hW2
     go_region_held3 (fun w'=>w'.cell? ⟨L.cb,0,none⟩=some (.slice L.pa c.plan.length L.pc)∧w'.cell? ⟨w1.heap.size,5,none⟩=some (.slice sa x.h.length sc)) (go_keep)
      ((go_at_call 226;(with_reducible refine C.out.mono ?_);rintro e w3⟨v,rfl,hE,hb3⟩;have hE:=hE;rw[htc.out] at hE;obtain rfl:=hE.nil;rw[HSB.out];have d0:=(hb3.cell (p:=⟨L.cb,0,none⟩) hl3).trans k0;have d5:=(hb3.cell (p:=⟨w1.heap.size,5,none⟩) hl5).trans n5))
     have hb13:Below W2.heap.size W2 w3:=(below_drewN (Below.refl _ _) 1).trans hb3;have hR3:RangeP w3 L.mb w.heap.size (half left c.f (NP.end1 (stayB c.plan.length))) q (fun j=>left j&&!(j==i)) cnt1:=HR2.out.below hb13;rw[half_skip hgi hE1.out] at hR3;have HR3:=Lib.hid hR3;have HF3:Hid (Fr (fun k=>k=L.mb) w w3):=HF2.out.off hb13;clear hE hb3 hb13 d0 d5 k0 k3 n1 n5 hR3;go_wp2;go_roundw
     case rel=>exact⟨_,cnt1,HR3.out,HF3.out⟩
     case measure=>rw[HR3.out.left_eq,HR.out.left_eq];exact hlt
   ·have hd:(x.st != 2)=true:=by simpa using hst
    have hR3:Hid (RangeP W2 L.mb w.heap.size (half (fun j=>left j&&!(j==i)) c.f (NP.end1 (stayB c.plan.length))) q (fun j=>left j&&!(j==i)) cnt1):=by
     have h0:=HR2.out;rw[half_skip hgi (by rw[NP.end1,if_neg (fun e=>hst e.1)])] at h0;exact h0
    clear hst;go_wp2;rw[←hW2];have HF2:=Lib.hid hF2;go_roundw
    case rel=>exact⟨_,cnt1,hR3.out,HF2.out⟩
    case measure=>rw[hR3.out.left_eq,HR.out.left_eq];exact hlt
end Go.Proofs.YtppfkokfnoeopaaGreatDoor
namespace Go.Proofs.YtppfkokfnoeopaaGreatDoor
open Go.RowKit
def part(ds:List Int)(f:Int→Option NP)(k:Int→NP→NP):Int→Option NP:=fun i=>if i∈ds then(f i).map (k i) else f i
theorem part_nil(f:Int→Option NP)(k:Int→NP→NP):part [] f k=f:=funext fun i=>by simp[part]
theorem part_put{ds:List Int}{f:Int→Option NP}{k:Int→NP→NP}{i:Int}{x y:NP}(hf:f i=some x)(hy:k i x=y):putN (part ds f k) i y=part (ds++[i]) f k:=funext fun j=>by
 unfold putN part
 by_cases e:j=i
 ·subst e;simp[hf,hy]
 ·simp[e]
theorem part_skip{ds:List Int}{f:Int→Option NP}{k:Int→NP→NP}{i:Int}{x:NP}(hf:f i=some x)(hy:k i x=x):part ds f k=part (ds++[i]) f k:=funext fun j=>by
 unfold part
 by_cases e:j=i
 ·subst e;simp[hf,hy]
 ·simp[e]
theorem part_at{ds:List Int}{f:Int→Option NP}{k:Int→NP→NP}{i:Int}(h:i∉ds):part ds f k i=f i:=if_neg h
theorem part_all{ds:List Int}{f:Int→Option NP}{k:Int→NP→NP}(h:∀i x,f i=some x→i∈ds):part ds f k=fun i=>(f i).map (k i):=funext fun i=>by
 unfold part
 split
 ·rfl
 ·rename_i hn
  cases hf:f i with
  | none=>rfl
  | some x=>exact absurd (h i x hf) hn
end Go.Proofs.YtppfkokfnoeopaaGreatDoor
