/- A part of a proof. -/
import Derived.Deep.CutBlock
import Derived.Deep.DeepCutAuto
import Derived.Test.YtppfkokfnoeopaaGreatDoorDClusEnd
import Derived.Test.YtppfkokfnoeopaaGreatDoorDRefClus
namespace Go.Proofs.YtppfkokfnoeopaaGreatDoor
open Go.RowKit Go.Maps
theorem RefAt.putj{w:World}{R:RL}{rs:List RN}{c:CP}(h:RefAt w R rs c){k:Nat}(hk:k<rs.length)(j:Nat)(v:Value)(r':RN)(hn:r'.n=rs[k].n)(hc:r'.cells=rs[k].cells.set j v)(hj:j<7)(hh:HRow w (.slice r'.la r'.x.h.length r'.lc) r'.x.h) :
 RefAt (w.setCell ⟨R.nb,R.off+k*7+j,none⟩ v) R (rs.set k r') ⟨c.plan,c.time,c.now,c.asked,fun i=>if i=r'.n then some r'.x else c.f i⟩∧Fr (fun j=>j=R.nb) w (w.setCell ⟨R.nb,R.off+k*7+j,none⟩ v):=by
 have hf:Fr (fun j=>j=R.nb) w (w.setCell ⟨R.nb,R.off+k*7+j,none⟩ v):=(Fr.refl (fun j=>j=R.nb) w).setCell (p:=⟨R.nb,R.off+k*7+j,none⟩) (Or.inl rfl) _;obtain⟨cur,hb⟩:=h.nblk;refine⟨h.put hf (fun j _ e=>e) hk r' hn ⟨_,hb.set _ _⟩ ?_ ?_ ?_,hf⟩
 ·intro i u hu
  rw[hc] at hu
  by_cases e:j=i
  ·subst e
   have hl:j<rs[k].cells.length:=hj;rw[List.getElem?_set_self hl] at hu;obtain rfl:=Option.some.inj hu;obtain⟨u0,hu0⟩:∃u,rs[k].cells[j]?=some u:=⟨_,List.getElem?_eq_getElem hl⟩
   have:=h.row k j u0 hk hu0;go_simp
  ·rw[List.getElem?_set_ne e] at hu
   exact(World.cell?_setCell_other _ _ _ _ (fun e2=>e (by injection e2 with _ e2;omega))).trans (h.row k i u hk hu)
 ·intro o hoo
  exact World.cell?_setCell_other _ _ _ _ (fun e=>by injection e with _ e;omega)
 ·exact hh.fr hf (fun i cur2 hi e=>by
   subst e;rw[show w.heap[R.nb]?=_ from hb] at hi
   injection hi with hi;injection hi with _ e;revert e;decide)
theorem RefAt.blkput{w w':World}{R:RL}{rs:List RN}{c:CP}(h:RefAt w R rs c)(hf:Fr (fun j=>j=R.cb) w w'){t:Nat}{now asked:Int}(hb:Blok w' R.cb 94 #[.slice R.pa c.plan.length R.pc,.int .i64 t,.int .i64 now,.int .i64 asked,.slice (some ⟨R.nb,R.off,none⟩) rs.length R.nc]):RefAt w' R rs ⟨c.plan,t,now,asked,c.f⟩:=by
 obtain⟨cur,hn⟩:=h.nblk;have hl:=h.lt;have hne:=h.ne
 refine⟨hb,⟨cur,(hf.block _ hl.2 (fun e=>hne e.symm)).trans hn⟩,fun i j v hi hv=>?_,h.plan.off hf (fun b off e _ hs=>(h.pfar b off e).1 hs),h.pfar,fun i hi=>⟨(h.each i hi).1,(h.each i hi).2.fr hf (fun k cur hk e=>by
  subst e;rw[show w.heap[R.cb]?=_ from h.blk] at hk
  injection hk with hk;injection hk with _ e;revert e;decide)⟩,h.dom,h.rise,h.len⟩
 have:=h.row i j v hi hv;simp only[World.cell?,hf.block _ hl.2 (fun e=>hne e.symm)] at this ⊢;exact this
theorem take_not{l:List Int}(h:l.Pairwise (· < ·)){k:Nat}(hk:k<l.length):l[k]∉l.take k:=by
 intro hm;obtain⟨j,hj,e⟩:=List.getElem_of_mem hm;rw[List.length_take] at hj;rw[List.getElem_take] at e;have:=List.pairwise_iff_getElem.1 h j k (by omega) hk (by omega);omega
theorem RefAt.mid{w:World}{R:RL}{rs:List RN}{ns:List Int}{p:List Int}{t:Nat}{now asked:Int}{f:Int→Option NP}{g:Int→NP→NP}{k:Nat}(h:RefAt w R rs ⟨p,t,now,asked,part (ns.take k) f g⟩)(hn:rs.map RN.n=ns)(hr:ns.Pairwise (· < ·))(hk:k<rs.length) :
 f rs[k].n=some rs[k].x∧HRow w (.slice rs[k].la rs[k].x.h.length rs[k].lc) rs[k].x.h∧rs[k].n∉ns.take k∧ns.take (k+1)=ns.take k++[rs[k].n]:=by
 have hkn:k<ns.length:=by rw[←hn];simpa using hk
 have he:ns[k]=rs[k].n:=by subst hn;simp
 have hnt:=take_not hr hkn;rw[he] at hnt;obtain⟨h1,h2⟩:=h.each k hk;dsimp only at h1;rw[part_at hnt] at h1;exact⟨h1,h2,hnt,by rw[List.take_succ_eq_append_getElem hkn,he]⟩
theorem names_set{rs:List RN}{k:Nat}{r':RN}(hk:k<rs.length)(hn:r'.n=rs[k].n):(rs.set k r').map RN.n=rs.map RN.n:=by
 rw[List.map_set,hn]
 exact List.ext_getElem (by simp) (fun i h1 h2=>by
  rw[List.getElem_set]
  split
  ·rename_i e;subst e;simp
  ·rfl)
theorem rown0{w w1:World}(hb:Below w.drew.heap.size w.drew w1):Below w.heap.size w w1:=(below_drewN (Below.refl _ _) 1).trans (hb.mono (by simp))
theorem rown2d{w w1:World}{x y:Value}{t:TypeId}(hb:Below (w.alloc (.cells #[x,y] t)).drew.heap.size (w.alloc (.cells #[x,y] t)).drew w1) :
 w1.cell? ⟨w.heap.size,0,none⟩=some x∧w1.cell? ⟨w.heap.size,1,none⟩=some y∧w1.frozen? ⟨w.heap.size,0,none⟩=false∧w1.frozen? ⟨w.heap.size,1,none⟩=false∧w.heap.size<w1.heap.size∧Below w.heap.size w w1:=by
 have hA:Below (w.alloc (.cells #[x,y] t)).heap.size (w.alloc (.cells #[x,y] t)) w1:=(below_drewN (Below.refl _ _) 1).trans (hb.mono (by simp));exact⟨(hA.cell (p:=⟨w.heap.size,0,none⟩) (by simp)).trans (by simp),(hA.cell (p:=⟨w.heap.size,1,none⟩) (by simp)).trans (by simp),(hA.frozen (p:=⟨w.heap.size,0,none⟩) (by simp)).trans (by simp),(hA.frozen (p:=⟨w.heap.size,1,none⟩) (by simp)).trans (by simp),by have:=hb.size;simp at this;omega,((Below.refl _ _).alloc (Nat.le_refl _) _).trans (hA.mono (by simp))⟩
theorem endR_off{stays:List Ent→Bool}{now:Int}{x:NP}(h:x.st≠2):NP.endR stays now x=x:=by rw[NP.endR,if_neg h]
set_option maxRecDepth 200000 in
set_option maxHeartbeats 6400000 in
theorem rEnded_any(R:RL)(rs:List RN)(c:CP)(w:World)(h:RefAt w R rs c)(hp:(planF c.plan).1=0)(hc:∀i x,c.f i=some x→x.st=2→(chk x.h).1=0)(hst:∀i x,c.f i=some x→x.st=0∨x.st=1∨x.st=2) :
 Calls Tryz.prog 147 #[.pointer (some ⟨R.cb,0,none⟩)] w fun e w'=>e=.returned (.tuple #[])∧(∃rs',RefAt w' R rs' ⟨c.plan,c.time,c.turned,if 0≤c.asked then -1 else c.asked,fun i=>(c.f i).map (NP.endR (stayB c.plan.length) c.turned)⟩)∧Fr R.own w w':=by
 obtain⟨c0,c1,c2,c3,c4⟩:=h.cells;have hlc:=h.lt.1;have hfz:∀o,w.frozen? ⟨R.cb,o,none⟩=false:=fun o=>h.blk.frozen o
 have hl16:=h.len;have hrl:1≤(c.plan.length:Int)∧(c.plan.length:Int)≤32:=by have:=planF_ok hp;omega
 have H:=Lib.hid h;have HC:=Lib.hid hc;have HST:=Lib.hid hst;obtain⟨asked',hask⟩:∃a,a=if 0≤c.asked then -1 else c.asked:=⟨_,rfl⟩
 have HA:=Lib.hid hask;rw[←hask];obtain⟨now,hnow⟩:∃a,a=c.turned:=⟨_,rfl⟩
 have HNW:=Lib.hid hnow;rw[←hnow];obtain⟨B,hB⟩:∃B,decide (0≤c.asked)=B:=⟨_,rfl⟩
 have HB:=Lib.hid hB;clear h hc hst hp hask hnow;go_enter Tryz.func147,Tryz.ntmps147;go_upto_if 10 with(fail);go_cut [10] (fun _ wx=>RefAt wx R rs ⟨c.plan,c.time,now,asked',c.f⟩∧Fr R.own w wx)
 case first=>
  clear hB
  cases B
  rotate_left
  ·have h0:0≤c.asked:=of_decide_eq_true HB.out
   have hw:RefAt ((w.setCell ⟨R.cb,2,none⟩ (.int .i64 c.asked)).setCell ⟨R.cb,3,none⟩ (.int .i64 (-1))) R rs ⟨c.plan,c.time,now,asked',c.f⟩∧Fr R.own w ((w.setCell ⟨R.cb,2,none⟩ (.int .i64 c.asked)).setCell ⟨R.cb,3,none⟩ (.int .i64 (-1))):=by
    have hf:Fr (fun j=>j=R.cb) w ((w.setCell ⟨R.cb,2,none⟩ (.int .i64 c.asked)).setCell ⟨R.cb,3,none⟩ (.int .i64 (-1))):=((Fr.refl (fun j=>j=R.cb) w).setCell (p:=⟨R.cb,2,none⟩) (Or.inl rfl) _).setCell (p:=⟨R.cb,3,none⟩) (Or.inl rfl) _;refine⟨H.out.blkput hf ?_,hf.mono fun k e=>Or.inl e⟩;have hb:=(H.out.blk.set 2 (.int .i64 c.asked)).set 3 (.int .i64 (-1));rw[HA.out,if_pos h0,HNW.out,CP.turned,if_pos h0];simpa using hb
   have HW:=Lib.hid hw;clear hw h0;go_wp2_with fail;go_meet
   case rel=>exact HW.out
  ·have h0:¬0≤c.asked:=of_decide_eq_false HB.out
   have hw:RefAt w R rs ⟨c.plan,c.time,now,asked',c.f⟩:=by
    rw[HA.out,if_neg h0,HNW.out,CP.turned,if_neg h0];exact H.out
   have HW:=Lib.hid hw;clear hw h0;go_wp2_with fail;go_meet
   case rel=>exact⟨HW.out,Fr.refl _ _⟩
 case rest=>
  obtain⟨hR0,hF0⟩:=hcut;obtain⟨ns,hns⟩:∃ns,ns=rs.map RN.n:=⟨_,rfl⟩
  have hnl:ns.length=rs.length:=by rw[hns];simp
  have HRI:Hid (ns.Pairwise (· < ·)):=by unfold Hid;rw[hns];exact H.out.rise
  have HNS:=Lib.hid hns.symm;have HNL:=Lib.hid hnl;have HDM:=Lib.hid (fun i x (hf:c.f i=some x)=>(by rw[hns];exact H.out.dom i (by rw[hf];rfl):i∈ns));generalize rs.length=n at *;have hR1:RefAt wc R rs ⟨c.plan,c.time,now,asked',part (ns.take 0) c.f (fun _=>NP.endR (stayB c.plan.length) now)⟩:=by rw[List.take_zero,part_nil];exact hR0
  have hrsl:rs.length=n:=by rw[←HNL.out,←HNS.out];simp
  clear hns hnl c0 c1 c2 c3 c4 hfz hR0 HA HNW hB;go_wp2;go_loopw [2] (fun i wr=>∃(k:Nat) (rs':List RN),k≤n∧i=.int .i64 k∧rs'.length=n∧rs'.map RN.n=ns∧RefAt wr R rs' ⟨c.plan,c.time,now,asked',part (ns.take k) c.f (fun _=>NP.endR (stayB c.plan.length) now)⟩∧Fr R.own w wr) (fun i _=>n-(intOf i).toNat)
  case atStart=>exact⟨0,rs,Nat.zero_le _,rfl,hrsl,HNS.out,hR1,hF0⟩
  case round=>
   clear hR1 hF0 hrsl;obtain⟨k,rs',hk,rfl,hl',hn',hR,hF⟩:=hrel;obtain⟨c0,c1,c2,c3,c4⟩:=hR.cells;rw[hl'] at c4;obtain⟨hlb,hlnb⟩:=hR.lt
   by_cases hlt:k<n
   ·obtain⟨hfk,hrow,hnt,htk⟩:=hR.mid hn' HRI.out (by omega)
    obtain⟨n0,n1,n2,n3,n4,n5,n6⟩:=hR.at k (by omega);have nf:=hR.frozen;have hi0:(0:Int)≤(k:Int):=by omega
    have hi1:(k:Int)<(n:Int):=by omega
    have hs3:=HST.out _ _ hfk;have HRR:=Lib.hid hR;have HF:=Lib.hid hF;have HROW:=Lib.hid hrow;have HTK:=Lib.hid htk;have HFK:=Lib.hid hfk;have HN':=Lib.hid hn';have HL':=Lib.hid hl';have HNT:=Lib.hid hnt;have hkl:k<rs'.length:=by omega
    generalize hr:rs'[k]=r at *;clear hR hF hrow htk hfk hn' hl' hnt
    by_cases h2:r.x.st=2
    ·have hd:decide (r.x.st<2)=false:=by simp;omega
     have hck:=HC.out _ _ HFK.out h2;have hhl:=chk_lenC hck;have CT:=Lib.hid (fun(W:World) (hb:Below wr.heap.size wr W)=>tallyOf_any r.la r.x.h.length r.lc r.x.h c.plan.length W rfl ((ownsRow_at HROW.out).below hb) (by omega));have H2:=Lib.hid h2;clear hck h2 hs3;obtain⟨g,hg⟩:∃g,g=tG c.plan.length r.x.h:=⟨_,rfl⟩
     obtain⟨b,hb⟩:∃b,b=tB c.plan.length r.x.h:=⟨_,rfl⟩
     have hBST:Hid (stayB c.plan.length r.x.h=decide (b<g)):=by unfold Hid stayB;rw[hg,hb]
     rw[←hg,←hb] at CT;clear hg hb;have hne:=HRR.out.ne;go_upto_region 7 with(fail);go_cut [3,4] from 22 to 94 (fun s3 s4 wx=>s3=.int .i64 g∧s4=.int .i64 b∧Below wr.heap.size wr wx)
     case first=>
      go_region_held3 (fun w'=>w'.cell? ⟨R.cb,0,none⟩=some (.slice R.pa c.plan.length R.pc)∧w'.cell? ⟨R.cb,4,none⟩=some (.slice (some ⟨R.nb,R.off,none⟩) n R.nc)∧w'.cell? ⟨R.nb,R.off+k*7+6,none⟩=some (.slice r.la r.x.h.length r.lc))
       (first|go_keep|(refine⟨?_,?_,?_⟩<;>(simp(disch:=(simp;omega)) only[World.cell?_setCell_far];assumption)))
       ((go_at_call 191;(with_reducible refine(CT.out _ ?_).mono ?_);exact(by first|exact below_drewN (Below.refl _ _) 1|exact(below_drewN (Below.refl _ _) 1).alloc (by simp) _);rintro e w7⟨rfl,hb7⟩;have hz7:=hb7.size;(first|(have hx7:=rown2d hb7;obtain⟨ma0,ma1,fa0,fa1,mlt,hbw7⟩:=hx7)|(have hbw7:=rown0 hb7));have d0:w7.cell? ⟨R.cb,0,none⟩=some (.slice R.pa c.plan.length R.pc):=(hb7.cell (p:=⟨R.cb,0,none⟩) (by simp;omega)).trans (by simp[*]);have d1:w7.cell? ⟨R.cb,4,none⟩=some (.slice (some ⟨R.nb,R.off,none⟩) n R.nc):=(hb7.cell (p:=⟨R.cb,4,none⟩) (by simp;omega)).trans (by simp[*]);have d2:w7.cell? ⟨R.nb,R.off+k*7+6,none⟩=some (.slice r.la r.x.h.length r.lc):=(hb7.cell (p:=⟨R.nb,R.off+k*7+6,none⟩) (by simp;omega)).trans (by simp[*])))
      all_goals
       go_wp2_with fail;go_meet
       case rel=>
        have hzw:=hbw7.size;refine⟨rfl,rfl,?_⟩
        repeat(with_reducible first|exact hbw7|refine Below.setCell ?_ ?_ _|refine Below.alloc ?_ ?_ _)
        all_goals(first|omega|(simp;done)|(simp;omega))
     case rest=>
      obtain⟨rfl,rfl,hbx⟩:=hcut;have hRx:=HRR.out.below hbx;have hFx:=HF.out.trans (Fr.of hbx);obtain⟨m0,m1,m2,m3,m4⟩:=hRx.cells;obtain⟨q0,q1,q2,q3,q4,q5,q6⟩:=hRx.at k hkl;have nfx:=hRx.frozen;obtain⟨hlb2,hlnb2⟩:=hRx.lt;rw[hr] at q0 q1 q2 q3 q4 q5 q6;rw[HL'.out] at m4;clear c0 c1 c2 c3 c4 n0 n1 n2 n3 n4 n5 n6 nf CT
      by_cases hbg:b<g
      ·have hd2:decide (b<g)=true:=decide_eq_true hbg
       have hE:NP.endR (stayB c.plan.length) now r.x=⟨2,r.x.val,r.x.m,now,r.x.s,r.x.h⟩:=by
        rw[NP.endR,if_pos H2.out,hBST.out,if_pos hd2]
       have hP:=hRx.putj hkl 4 (.int .i64 now) ⟨r.n,⟨2,r.x.val,r.x.m,now,r.x.s,r.x.h⟩,r.la,r.lc⟩ (by rw[hr]) (by rw[hr];unfold RN.cells;dsimp only;rw[H2.out];rfl) (by omega) (HROW.out.below hbx)
       have hQ:RefAt (wc.setCell ⟨R.nb,R.off+k*7+4,none⟩ (.int .i64 now)).drew R (rs'.set k ⟨r.n,⟨2,r.x.val,r.x.m,now,r.x.s,r.x.h⟩,r.la,r.lc⟩) ⟨c.plan,c.time,now,asked',part (ns.take (k+1)) c.f (fun _=>NP.endR (stayB c.plan.length) now)⟩:=by
        have h1:=hP.1.drewN 1;rw[HTK.out];rw[←part_put (k:=fun _=>NP.endR (stayB c.plan.length) now) HFK.out hE];exact h1
       have HQ:=Lib.hid hQ;have HFQ:=Lib.hid ((hFx.trans (hP.2.mono fun j e=>Or.inr e)).drewN 1);have HNQ:=Lib.hid ((names_set (r':=⟨r.n,⟨2,r.x.val,r.x.m,now,r.x.s,r.x.h⟩,r.la,r.lc⟩) hkl (by rw[hr])).trans HN'.out);clear hQ hP hE hRx hFx hbg hr;go_wp2;go_region;go_wp2;go_roundw
       case rel=>exact⟨k+1,_,by omega,by go_num,by rw[List.length_set];exact HL'.out,HNQ.out,HQ.out,HFQ.out⟩
       case measure=>simp[intOf];omega
      ·have hd2:decide (b<g)=false:=decide_eq_false hbg
       have hE:NP.endR (stayB c.plan.length) now r.x=⟨0,r.x.val,0,0,0,[]⟩:=by
        rw[NP.endR,if_pos H2.out,hBST.out,hd2];rfl
       have hP:=hRx.put7 hkl ⟨r.n,⟨0,r.x.val,0,0,0,[]⟩,none,0⟩ (by rw[hr]) (HRow.nil _)
       have hQ:RefAt (RN.store wc R.nb (R.off+k*7) ⟨r.n,⟨0,r.x.val,0,0,0,[]⟩,none,0⟩).drew R (rs'.set k ⟨r.n,⟨0,r.x.val,0,0,0,[]⟩,none,0⟩) ⟨c.plan,c.time,now,asked',part (ns.take (k+1)) c.f (fun _=>NP.endR (stayB c.plan.length) now)⟩:=by
        have h1:=hP.1.drewN 1;rw[HTK.out];rw[←part_put (k:=fun _=>NP.endR (stayB c.plan.length) now) HFK.out hE];exact h1
       have HQ:=Lib.hid hQ;have HFQ:=Lib.hid ((hFx.trans (hP.2.mono fun j e=>Or.inr e)).drewN 1);have HNQ:=Lib.hid ((names_set (r':=⟨r.n,⟨0,r.x.val,0,0,0,[]⟩,none,0⟩) hkl (by rw[hr])).trans HN'.out);clear hQ hP hE hRx hFx hbg hr;go_wp2;go_region;go_wp2;go_roundw
       case rel=>exact⟨k+1,_,by omega,by go_num,by rw[List.length_set];exact HL'.out,HNQ.out,HQ.out,HFQ.out⟩
       case measure=>simp[intOf];omega
    ·have hd:decide (r.x.st<2)=true:=by simp;omega
     have HE:Hid (RefAt wr R rs' ⟨c.plan,c.time,now,asked',part (ns.take (k+1)) c.f (fun _=>NP.endR (stayB c.plan.length) now)⟩):=by
      unfold Hid;rw[HTK.out,←part_skip (k:=fun _=>NP.endR (stayB c.plan.length) now) HFK.out (endR_off h2)];exact HRR.out
     clear h2 hs3;go_wp2;go_roundw
     case rel=>exact⟨k+1,rs',by omega,by go_num,HL'.out,HN'.out,HE.out,HF.out⟩
     case measure=>simp[intOf];omega
   ·obtain rfl:k=n:=by omega
    have HE:Hid (RefAt wr R rs' ⟨c.plan,c.time,now,asked',fun i=>(c.f i).map (NP.endR (stayB c.plan.length) now)⟩):=by
     unfold Hid
     have e:part (ns.take k) c.f (fun _=>NP.endR (stayB c.plan.length) now)=fun i=>(c.f i).map (NP.endR (stayB c.plan.length) now):=by
      rw[List.take_of_length_le (by rw[HNL.out];omega)];exact part_all HDM.out
     rw[←e];exact hR
    have HF:=Lib.hid hF;clear hR hF;go_wp2;refine bodyPost_end (results_none rfl _ _ _) rfl ?_;exact⟨rfl,⟨_,HE.out⟩,HF.out⟩
theorem RefAt.putV{w:World}{R:RL}{rs:List RN}{c:CP}(h:RefAt w R rs c){k:Nat}(hk:k<rs.length)(r:RN)(hr:rs[k]=r)(m d s:Int) :
 RefAt (((w.setCell ⟨R.nb,R.off+k*7+3,none⟩ (.int .i64 m)).setCell ⟨R.nb,R.off+k*7+4,none⟩ (.int .i64 d)).setCell ⟨R.nb,R.off+k*7+5,none⟩ (.int .i64 s)) R (rs.set k ⟨r.n,⟨r.x.st,r.x.val,m,d,s,r.x.h⟩,r.la,r.lc⟩) ⟨c.plan,c.time,c.now,c.asked,putN c.f r.n ⟨r.x.st,r.x.val,m,d,s,r.x.h⟩⟩ ∧
  Fr (fun j=>j=R.nb) w (((w.setCell ⟨R.nb,R.off+k*7+3,none⟩ (.int .i64 m)).setCell ⟨R.nb,R.off+k*7+4,none⟩ (.int .i64 d)).setCell ⟨R.nb,R.off+k*7+5,none⟩ (.int .i64 s)):=by
 have hh:=(h.each k hk).2;rw[hr] at hh;have p1:=h.putj hk 3 (.int .i64 m) ⟨r.n,⟨r.x.st,r.x.val,m,r.x.d,r.x.s,r.x.h⟩,r.la,r.lc⟩ (by rw[hr]) (by rw[hr];rfl) (by omega) hh;have k1:k<(rs.set k ⟨r.n,⟨r.x.st,r.x.val,m,r.x.d,r.x.s,r.x.h⟩,r.la,r.lc⟩).length:=by rw[List.length_set];exact hk
 have hh1:=(p1.1.each k k1).2;rw[List.getElem_set_self] at hh1;have p2:=p1.1.putj k1 4 (.int .i64 d) ⟨r.n,⟨r.x.st,r.x.val,m,d,r.x.s,r.x.h⟩,r.la,r.lc⟩ (by rw[List.getElem_set_self]) (by rw[List.getElem_set_self];rfl) (by omega) hh1;rw[List.set_set] at p2;have k2:k<(rs.set k ⟨r.n,⟨r.x.st,r.x.val,m,d,r.x.s,r.x.h⟩,r.la,r.lc⟩).length:=by rw[List.length_set];exact hk
 have hh2:=(p2.1.each k k2).2;rw[List.getElem_set_self] at hh2;have p3:=p2.1.putj k2 5 (.int .i64 s) ⟨r.n,⟨r.x.st,r.x.val,m,d,s,r.x.h⟩,r.la,r.lc⟩ (by rw[List.getElem_set_self]) (by rw[List.getElem_set_self];rfl) (by omega) hh2;rw[List.set_set] at p3;refine⟨?_,(p1.2.trans p2.2).trans p3.2⟩
 have e:putN c.f r.n ⟨r.x.st,r.x.val,m,d,s,r.x.h⟩=fun i=>if i=r.n then some ⟨r.x.st,r.x.val,m,d,s,r.x.h⟩ else if i=r.n then some ⟨r.x.st,r.x.val,m,d,r.x.s,r.x.h⟩ else if i=r.n then some ⟨r.x.st,r.x.val,m,r.x.d,r.x.s,r.x.h⟩ else c.f i:=funext fun i=>by
  unfold putN
  split<;>simp_all
 rw[e];exact p3.1
theorem RefAt.again{w:World}{R:RL}{rs:List RN}{p:List Int}{t:Nat}{now asked:Int}{f:Int→Option NP}{k:Nat}{r0 r1:RN}(h:RefAt w R ((rs.set k r0).set k r1) ⟨p,t,now,asked,fun i=>if i=r1.n then some r1.x else putN f r0.n r0.x i⟩)(hn:r1.n=r0.n):RefAt w R (rs.set k r1) ⟨p,t,now,asked,putN f r1.n r1.x⟩:=by
 rw[List.set_set] at h
 have e:(fun i=>if i=r1.n then some r1.x else putN f r0.n r0.x i)=putN f r1.n r1.x:=funext fun i=>by
  unfold putN;rw[hn]
  split<;>simp_all
 rw[←e];exact h
theorem RefAt.who{w:World}{R:RL}{rs:List RN}{p:List Int}{t:Nat}{now asked:Int}{ds:List Int}{f:Int→Option NP}{g:Int→NP→NP}(h:RefAt w R rs ⟨p,t,now,asked,part ds f g⟩){k:Nat}(hk:k<rs.length){y:NP}(hf:f rs[k].n=some y)(hg:g rs[k].n y=y):rs[k].x=y:=by
 have h1:=(h.each k hk).1;dsimp only[part] at h1
 split at h1
 ·rw[hf,Option.map_some,hg] at h1;exact(Option.some.inj h1).symm
 ·rw[hf] at h1;exact(Option.some.inj h1).symm
end Go.Proofs.YtppfkokfnoeopaaGreatDoor
