/- A part of a proof. -/
import Derived.Test.YtppfkokfnoeopaaGreatDoorDClusSlot
namespace Go.Proofs.YtppfkokfnoeopaaGreatDoor
open Go.RowKit
set_option maxRecDepth 100000 in
theorem boardCp_any(b mb:Nat)(l:List (Int×Int))(now asked:Int)(w:World)(h:BoardM w b mb l now asked) :
 Calls Tryz.prog 85 #[.pointer (some ⟨b,0,none⟩)] w fun e w'=>∃c,e=.returned (.pointer (some ⟨c,0,none⟩))∧w.heap.size≤c∧BoardM w' c mb l now asked∧Below w.heap.size w w':=by
 obtain⟨h1,h2,h3⟩:=h;have c0:w.cell? ⟨b,0,none⟩=some (.map (some mb)):=cell_of_row w b 0 _ _ _ h1;have c1:w.cell? ⟨b,1,none⟩=some (.int .i64 now):=cell_of_row w b 1 _ _ _ h1;have c2:w.cell? ⟨b,2,none⟩=some (.int .i64 asked):=cell_of_row w b 2 _ _ _ h1;have hlt:b<w.heap.size:=(Array.getElem?_eq_some_iff.1 h1).1;have H3:=Lib.hid h3;clear h1 h2 h3;go_enter Tryz.func85,Tryz.ntmps85;go_wp2;go_still_tail 13,(by kernel_rfl)
 have hRB:∀m:Nat,BoardM ((w.drewN m).alloc (.cells #[.map (some mb),.int .i64 now,.int .i64 asked] 210)) w.heap.size mb l now asked:=fun m=>by
  have h1:=heap_alloc_new (w.drewN m) (.cells #[.map (some mb),.int .i64 now,.int .i64 asked] 210);have hm:=H3.out.lt;exact⟨by simpa using h1,by omega,(H3.out.drewN m).kept (below_grows ((Below.refl _ _).alloc (Nat.le_refl _) _) none) (by simp)⟩
 have HRB:=Lib.hid hRB;clear hRB;go_wp2;go_ret;exact⟨_,rfl,Nat.le_refl _,HRB.out _,(below_drewN (Below.refl _ _) _).alloc (by simp) _⟩
end Go.Proofs.YtppfkokfnoeopaaGreatDoor
namespace Go.Proofs.YtppfkokfnoeopaaGreatDoor
open Go.RowKit Go.Maps
structure Fresh(b:Nat)(L:CL):Prop where
 cb:b≤L.cb
 bb:b≤L.bb
 mb:b≤L.mb
set_option maxRecDepth 100000 in
set_option maxHeartbeats 3200000 in
theorem cCopy_any(L:CL)(c:CP)(w:World)(h:ClusAt w L c)(hl:∀i x,c.f i=some x→x.h.length≤1000) :
 Calls Tryz.prog 37 #[.pointer (some ⟨L.cb,0,none⟩)] w fun e w'=>∃L':CL,e=.returned (.pointer (some ⟨L'.cb,0,none⟩))∧ClusAt w' L' c∧Fresh w.heap.size L'∧Below w.heap.size w w':=by
 obtain⟨c0,c1,c2,c3⟩:=h.cells;obtain⟨l1,l2,l3,l4⟩:=h.lt;obtain⟨q,hq,hN⟩:=h.nodes;have H:=Lib.hid h;have HN:=Lib.hid hN;have HL:=Lib.hid hl;have hmm:=@run_makeMap Tryz.prog;clear h hN hl;go_enter Tryz.func37,Tryz.ntmps37;have hb1:Below w.heap.size w (w.alloc (.map #[] 0)):=(Below.refl _ _).alloc (Nat.le_refl _) _;have k3:=(hb1.cell (p:=⟨L.cb,3,none⟩) l1).trans c3;have HN1:=Lib.hid (HN.out.below hb1);have HM1:=Lib.hid (NodesP.made w);go_wp2_with (first|(at_range;refine wpList_range_p rfl _ rfl rfl HN1.out ?_;intro w0 hR0 hb0 hz0)|fail);go_frame;have hz1:(w.alloc (.map #[] 0)).heap.size=w.heap.size+1:=by simp
 have hM0:NodesP w0 w.heap.size (fun i=>if (c.f i).isSome then none else c.f i) 0:=by
  have e:(fun i=>if (c.f i).isSome then none else c.f i)=fun _=>(none:Option NP):=funext fun i=>by cases c.f i<;>rfl
  rw[e];exact HM1.out.below hb0
 have hbw:Below w.heap.size w w0:=hb1.trans (hb0.mono (by simp));rw[hz1] at hR0 ⊢;go_loopw [12] (fun _ wr=>∃(left:Int→Bool) (cnt q2:Nat),RangeP wr L.mb (w.heap.size+1) c.f q left cnt∧NodesP wr w.heap.size (fun i=>if left i then none else c.f i) q2∧q2+cnt≤q∧Below w.heap.size w wr) (fun _ wr=>wr.rangeLeft L.mb (w.heap.size+1))
 case atStart=>exact⟨_,q,0,hR0,hM0,by omega,hbw⟩
 case round=>
  clear hR0 hM0 hbw hb0 hb1 HN1 HM1 hz1 hmm k3;obtain⟨left,cnt,q2,hR,hM,hqc,hb⟩:=hrel;have HM:=Lib.hid hM;have HR:=Lib.hid hR;have HB:=Lib.hid hb;clear hM hb;go_wp2_with (at_next;refine wpList_next_p rfl _ rfl rfl hR ?_ ?_)
  ·intro hc0 hl0
   have hMd:NodesP wr w.heap.size c.f q2:=by
    have e:(fun i=>if left i=true then none else c.f i)=c.f:=funext fun i=>by rw[hl0 i];rfl
    have hM:=HM.out;rw[e] at hM;exact hM
   have hcd:=H.out.below HB.out;have hbd:Below w.heap.size w wr.drew:=below_drewN HB.out 1;have C:=Lib.hid (boardCp_any L.bb L.mm allPairs c.now c.asked wr.drew (hcd.below (below_drewN (Below.refl _ _) 1)).board);obtain⟨k0,k1,k2,k3⟩:=(hcd.drewN 1).cells;have k0:wr.drew.cell? ⟨L.cb,0,none⟩=_:=k0;have k1:wr.drew.cell? ⟨L.cb,1,none⟩=_:=k1;have k2:wr.drew.cell? ⟨L.cb,2,none⟩=_:=k2;have hlw:=(hcd.drewN 1).lt.1;have HMd:=Lib.hid hMd;have HCd:=Lib.hid hcd;clear hMd hcd c0 c1 c2 c3 k3;go_wp2
   go_region_held3 (fun w'=>w'.cell? ⟨L.cb,0,none⟩=some (.slice L.pa c.plan.length L.pc)∧w'.cell? ⟨L.cb,1,none⟩=some (.int .i64 c.time)∧w'.cell? ⟨L.cb,2,none⟩=some (.pointer (some ⟨L.bb,0,none⟩))) (go_keep)
    ((go_at_call 85;(with_reducible refine C.out.mono ?_);rintro e w7⟨cb',rfl,hcb',hB7,hb7⟩;have d0:=(hb7.cell (p:=⟨L.cb,0,none⟩) hlw).trans k0;have d1:=(hb7.cell (p:=⟨L.cb,1,none⟩) hlw).trans k1;have d2:=(hb7.cell (p:=⟨L.cb,2,none⟩) hlw).trans k2;have HB7:=Lib.hid hB7;clear hB7))
   go_wp2;go_ret;have hlt7:w7.heap.size=w7.heap.size:=rfl;have hfin:Below w.heap.size w (w7.alloc (.cells #[.slice L.pa c.plan.length L.pc,.int .i64 c.time,.pointer (some ⟨cb',0,none⟩),.map (some w.heap.size)] 141)):=(hbd.trans (hb7.mono hbd.size)).alloc (Nat.le_trans hbd.size hb7.size) _;have hal:Below w7.heap.size w7 (w7.alloc (.cells #[.slice L.pa c.plan.length L.pc,.int .i64 c.time,.pointer (some ⟨cb',0,none⟩),.map (some w.heap.size)] 141)):=(Below.refl _ _).alloc (Nat.le_refl _) _;have hpl:=((HCd.out.below (below_drewN (Below.refl _ _) 1)).below hb7).below hal;have hmm:=H.out.lt;refine⟨⟨w7.heap.size,cb',w.heap.size,L.mm,L.pa,L.pc⟩,rfl,⟨?_,hpl.plan,HB7.out.kept (below_grows hal none) (by simp) (by simp),⟨q2,by omega,((HMd.out.below (below_drewN (Below.refl _ _) 1)).below hb7).below hal⟩,by dsimp only;omega⟩,⟨Nat.le_trans hbd.size hb7.size,Nat.le_trans hbd.size hcb',Nat.le_refl _⟩,hfin⟩;exact World.alloc_heap_new w7 _
  ·intro i x sa sc w1 cnt1 hwi hli hgi hrow hR1 hlt hg1 hz1 hen
   have hb1:Below w.heap.size w w1:=HB.out.grown hg1 HB.out.size (fun j e=>by injection e with e;omega);have hM1:=HM.out;have HZ1:=Lib.hid hz1;clear hz1;obtain⟨W2,hW2,S2,hb2,hz2,hc2⟩:=new6 w1 143 (.int .i64 x.st) (.int .i64 x.val) (.int .i64 x.m) (.int .i64 x.d) (.int .i64 x.s) (.slice sa x.h.length sc);have K:=Lib.hid (cloneEnts_own sa _ sc x.h W2 rfl (ownsRow_at (hrow.below hb2)) (by have:=HL.out i x hgi;omega))
   have HM1:Hid (NodesP w1 w.heap.size (fun i=>if left i then none else c.f i) q2):=hM1.fr (S:=fun k=>k=w.heap.size+1) (Fr.grown hg1 (fun k e=>by injection e with e;exact e.symm)) (by omega) (fun k cur hk e=>by
    obtain⟨s,seen,c,hi⟩:=HR.out.iter
    subst e;rw[hi] at hk;cases hk)
   clear hM1 hc2 hz2;go_wp2_with fail;rw[←hW2];refine K.out.mono ?_;rintro e w3⟨a',cap',rfl,ho3,hb3⟩;obtain⟨⟨cur3,ho⟩,n0,n1,n2,n3,n4,n5,nf,nl⟩:=S2.below hb3;have f5:=nf 5;have hR3:Hid (RangeP (w3.setCell ⟨w1.heap.size,5,none⟩ (.slice a' x.h.length cap')) L.mb (w.heap.size+1) c.f q (fun j=>left j&&!(j==i)) cnt1):=((hR1.below hb2).below hb3).setCell (p:=⟨w1.heap.size,5,none⟩) ho (by decide) _;have hM3:Hid (NodesP (w3.setCell ⟨w1.heap.size,5,none⟩ (.slice a' x.h.length cap')) w.heap.size (fun i=>if left i then none else c.f i) q2):=((HM1.out.below hb2).below hb3).setCell (p:=⟨w1.heap.size,5,none⟩) ho (by decide) _
   have hr3:Hid (HRow (w3.setCell ⟨w1.heap.size,5,none⟩ (.slice a' x.h.length cap')) (.slice a' x.h.length cap') x.h):=by
    have h0:HRow w3 (.slice a' x.h.length cap') x.h:=ownsRow_rebase ho3 (Nat.zero_le _)
    exact h0.fr (S:=fun k=>k=w1.heap.size) ((Fr.refl (fun k=>k=w1.heap.size) w3).setCell (p:=⟨w1.heap.size,5,none⟩) (Or.inl rfl) _) (fun k cur hk e=>by
     subst e;rw[ho] at hk;injection hk with hk;injection hk with _ e2;revert e2;decide)
   have HB3:Hid (Below w.heap.size w (w3.setCell ⟨w1.heap.size,5,none⟩ (.slice a' x.h.length cap'))):=(onto (onto hb1 hb2) hb3).setCell (by have:=hb1.size;simpa using this) _;have HO:=Lib.hid ho;have HO3:=Lib.hid ho3;clear hb3 ho3 ho hb2 hb1 hR1 hrow hg1;go_wp2_with (at_mapUpdate;refine wpList_put_nodes rfl _ _ _ rfl (mb:=w.heap.size) (g:=fun i=>if left i then none else c.f i) (q:=q2) (i:=i) (x:=x) (sl:=.slice a' x.h.length cap') rfl hM3.out (by omega) rfl rfl hwi hr3.out ?_;intro w5 hN5 hg5);obtain⟨es,clock,hmap⟩:=hM3.out.map;have hR5:Hid (RangeP w5 L.mb (w.heap.size+1) c.f q (fun j=>left j&&!(j==i)) cnt1):=hR3.out.other (by omega) hmap hg5
   have hN6:Hid (NodesP w5 w.heap.size (fun j=>if (left j&&!(j==i))=true then none else c.f j) (q2+1)):=by
    have e1:putN (fun i=>if left i then none else c.f i) i x=fun j=>if (left j&&!(j==i))=true then none else c.f j:=funext fun j=>by
     unfold putN
     by_cases e:j=i
     ·subst e;simp[hgi]
     ·have e2:(j==i)=false:=by simpa using e
      rw[if_neg e,e2];simp
    have h0:=hN5;rw[e1] at h0;simp only[hli,if_true,Option.isSome_none,Bool.false_eq_true,if_false] at h0;exact h0
   have HB5:Hid (Below w.heap.size w w5):=HB3.out.grown hg5 HB3.out.size (fun j e=>by injection e with e;omega);clear hN5 hg5 hmap;go_roundw
   case rel=>(repeat apply Exists.intro);exact⟨⟨_,cnt1,q2+1,hR5.out,hN6.out,by omega,HB5.out⟩,rfl⟩
   case measure=>rw[hR5.out.left_eq,HR.out.left_eq];exact hlt
theorem info_pair:(Tryz.prog.info? 176).map (fun i=>(i.zero,i.size,i.bytes))=some (some (.agg #[.int .i64 0,.int .i64 0]),2,16):=by kernel_rfl
def NewPost(ea:Nat→Addr)(l:List (Int×Int))(w:World)(e:Ending)(w':World):Prop:=
 ((∀p∈l,pairB p=true)∧∃b,e=.returned (.tuple #[.pointer (some ⟨b,0,none⟩),.nilIface])∧w.heap.size≤b∧BoardAt w' b l 0 (-1)∧Below w.heap.size w w')
 ∨(∃i,∃h:i<l.length,pairB l[i]=false∧(∀j,∀h':j<i,pairB (l[j]'(by omega))=true)∧∃v,e=.returned (.tuple #[.pointer none,v])∧ErrIs ea w' v 2 i∧Below w.heap.size w w')
set_option maxRecDepth 100000 in
set_option maxHeartbeats 1600000 in
theorem new_any(ea:Nat→Addr)(a:Option Addr)(n cap:Nat)(l:List (Int×Int))(w:World)(hg:Glob w ea [2])(hn:l.length=n)(hr:RowAt w a (encPairs l))(h:n≤16) :
 Calls Tryz.prog 116 #[.slice a n cap] w (NewPost ea l w):=by
 have HN:=Lib.hid hn;have hmm:=@run_makeMap Tryz.prog;have H2:=Lib.hid (errV_pos ea (k:=2) (by decide));clear hn;go_enter Tryz.func116,Tryz.ntmps116;go_wp2;have hb0:Below w.heap.size w ((w.alloc (.map #[] 0)).alloc (.cells #[.map (some w.heap.size),.int .i64 0,.int .i64 (-1)] 210)):=((Below.refl _ _).alloc (Nat.le_refl _) _).alloc (by simp) _
 have hB0:Hid (((w.alloc (.map #[] 0)).alloc (.cells #[.map (some w.heap.size),.int .i64 0,.int .i64 (-1)] 210)).heap[w.heap.size+1]?=some (.cells #[.map (some w.heap.size),.int .i64 0,.int .i64 (-1)] 210 (0,0))):=by
  have h1:=heap_alloc_new (w.alloc (.map #[] 0)) (.cells #[.map (some w.heap.size),.int .i64 0,.int .i64 (-1)] 210);unfold Hid;simpa using h1
 have hM0:PairMap ((w.alloc (.map #[] 0)).alloc (.cells #[.map (some w.heap.size),.int .i64 0,.int .i64 (-1)] 210)) w.heap.size []:=⟨0,Nat.le_refl _,(World.ownsMap_made w _ _ _).alloc _⟩;go_loopw [16] (fun i wr=>∃k:Nat,k≤n∧i=.int .i64 k∧Hid (∀p∈l.take k,pairB p=true)∧Hid (wr.heap[w.heap.size+1]?=some (.cells #[.map (some w.heap.size),.int .i64 0,.int .i64 (-1)] 210 (0,0)))∧PairMap wr w.heap.size (l.take k)∧Below w.heap.size w wr) (fun i _=>n-(intOf i).toNat)
 case atStart=>exact⟨0,Nat.zero_le _,rfl,by unfold Hid;simp,hB0,hM0,hb0⟩
 case round=>
  clear hb0 hB0 hM0 hmm;obtain⟨k,hk,rfl,HA,HB,hM,hb⟩:=hrel;have hsz:=hb.size;have hlt1:w.heap.size+1<wr.heap.size:=(Array.getElem?_eq_some_iff.1 HB.out).1
  by_cases hlt:k<n
  ·have hkt:k<l.length:=by have:=HN.out;omega
   obtain⟨b,off,rfl,hbl,c0,c1⟩:=hr.pair k hkt;have ht:Hid (l.take (k+1)=l.take k++[l[k]]):=List.take_succ_eq_append_getElem hkt;have d0:=(hb.cell (p:=⟨b,off+k*2,none⟩) hbl).trans c0;have d1:=(hb.cell (p:=⟨b,off+k*2+1,none⟩) hbl).trans c1;have hi0:(0:Int)≤(k:Int):=by omega
   have hi1:(k:Int)<(n:Int):=by omega
   have hbx:Below w.heap.size w (wr.alloc (.cells #[.int .i64 l[k].1,.int .i64 l[k].2] 176)):=hb.alloc hsz _;clear c0 c1
   cases hp:pairB l[k]
   ·have HP:=Lib.hid hp
    have hA:∀j,∀h':j<k,pairB (l[j]'(by omega))=true:=fun j h'=>HA.out _ (by
     have:(l.take k)[j]'(by simp;omega)=l[j]'(by omega):=List.getElem_take
     rw[←this];exact List.getElem_mem _)
    have HAA:=Lib.hid hA;have g2:=(hg.below hbx).cell 2 (by simp);simp only[gOf] at g2;rw[H2.out] at g2;clear hp hA;generalize hs:l[k]=s at *;have HS:=Lib.hid hs;clear hs
    cases hm1:modeB s.1
    ·have HM1:=Lib.hid hm1
     clear hm1;go_wp2_with (go_at_call 165;refine(mode_any _ _).mono ?_;rintro e w1⟨rfl,rfl⟩;rw[HM1.out]);go_region;go_wp2;go_ret2;refine Or.inr ⟨k,hkt,by rw[HS.out];exact HP.out,HAA.out,_,rfl,?_,?_⟩
     ·exact Or.inr ⟨by omega,by decide,_,rfl,by simp,by simp,by simp;exact H2.out.symm⟩
     ·exact(below_drewN hbx 1).alloc (by simp;omega) _
    ·have hm2:modeB s.2=false:=by
      have h2:=HP.out;rw[pairB,hm1,Bool.true_and] at h2;exact h2
     have HM1:=Lib.hid hm1;have HM2:=Lib.hid hm2;clear hm1 hm2;go_wp2_with fail;refine(mode_any _ _).mono ?_;rintro e w1⟨rfl,rfl⟩;rw[HM1.out];go_wp2_with fail;refine(mode_any _ _).mono ?_;rintro e w1⟨rfl,rfl⟩;rw[HM2.out];go_wp2;go_region;go_wp2;go_ret2;refine Or.inr ⟨k,hkt,by rw[HS.out];exact HP.out,HAA.out,_,rfl,?_,?_⟩
     ·exact Or.inr ⟨by omega,by decide,_,rfl,by simp,by simp,by simp;exact H2.out.symm⟩
     ·exact(below_drewN hbx 1).alloc (by simp;omega) _
   ·have hA2:Hid (∀p∈l.take (k+1),pairB p=true):=by
     unfold Hid;rw[ht.out];intro p hp'
     rcases List.mem_append.1 hp' with h1|h1
     ·exact HA.out p h1
     ·rw[List.mem_singleton.1 h1];exact hp
    have hm1:modeB l[k].1=true:=by simp only[pairB,Bool.and_eq_true] at hp;exact hp.1
    have hm2:modeB l[k].2=true:=by simp only[pairB,Bool.and_eq_true] at hp;exact hp.2
    have hlen:(l.take k).length≤16:=Nat.le_trans (List.length_take_le _ _) (by omega);generalize l[k]=s at *;have HM1:=Lib.hid hm1;have HM2:=Lib.hid hm2
    have hcb:(wr.alloc (.cells #[.int .i64 s.1,.int .i64 s.2] 176)).cell? ⟨w.heap.size+1,0,none⟩=some (.map (some w.heap.size)):=by
     rw[World.cell?_alloc_lt _ _ ⟨w.heap.size+1,0,none⟩ hlt1];exact cell_of_row wr _ 0 _ _ _ HB.out
    obtain⟨m,hml,hown⟩:=hM;clear hm1 hm2 hp hkt;go_wp2_with fail;refine(mode_any _ _).mono ?_;rintro e w1⟨rfl,rfl⟩;rw[HM1.out];go_wp2_with fail;refine(mode_any _ _).mono ?_;rintro e w1⟨rfl,rfl⟩;rw[HM2.out];go_wp2;have e0:(wr.alloc (.cells #[.int .i64 s.1,.int .i64 s.2] 176)).cell? ⟨wr.heap.size,0,none⟩=some (.int .i64 s.1):=by simp
    have e1:(wr.alloc (.cells #[.int .i64 s.1,.int .i64 s.2] 176)).cell? ⟨wr.heap.size,1,none⟩=some (.int .i64 s.2):=by simp
    have hown2:=hown.alloc (.cells #[.int .i64 s.1,.int .i64 s.2] 176);have hz2:(wr.alloc (.cells #[.int .i64 s.1,.int .i64 s.2] 176)).heap.size=wr.heap.size+1:=by simp
    have hB2:Hid ((wr.alloc (.cells #[.int .i64 s.1,.int .i64 s.2] 176)).heap[w.heap.size+1]?=some (.cells #[.map (some w.heap.size),.int .i64 0,.int .i64 (-1)] 210 (0,0))):=by
     unfold Hid;exact((below_grows ((Below.refl wr.heap.size wr).alloc (Nat.le_refl _) _) none).block (w.heap.size+1) hlt1 (by simp)).trans HB.out
    obtain⟨W2,hW2⟩:∃W2,W2=wr.alloc (.cells #[.int .i64 s.1,.int .i64 s.2] 176):=⟨_,rfl⟩
    rw[←hW2] at e0 e1 hown2 hcb hbx hB2 hz2 ⊢;have HZ2:=Lib.hid hz2;clear hW2 hz2;go_still_tail 5,(by kernel_rfl)
    change wpList _ _ _ _ _ W2.drew
    go_wp2_with (at_mapUpdate;refine wpList_mapUpdate_own _ rfl _ _ _ 208 rfl 176 4 keyedPair Tryz.underlying208 _ w.heap.size m _ rfl hown2.drew (by unfold maxLen;omega) _ _ _ rfl rfl (key_at HM1.out HM2.out) _ [] (plainElem_bool Tryz.underlying4 true) ?_;intro w3 hown3 hgrow3);have hb3:Below w.heap.size w w3:=(below_drewN hbx 1).grown hgrow3 hbx.size (fun j e=>by cases e;exact Nat.le_refl _)
    have HB3:Hid (w3.heap[w.heap.size+1]?=some (.cells #[.map (some w.heap.size),.int .i64 0,.int .i64 (-1)] 210 (0,0))):=by
     unfold Hid;rw[hgrow3.block (w.heap.size+1) (by show w.heap.size+1<W2.heap.size;rw[HZ2.out];omega) (by simp)];exact hB2.out
    go_roundw
    case rel=>exact⟨k+1,by omega,by go_num,hA2,HB3,⟨m+1,by rw[ht.out,List.length_append,List.length_singleton];omega,by rw[ht.out,mapD_snoc];exact hown3⟩,hb3⟩
    case measure=>simp[intOf];omega
  ·have ht:l.take k=l:=List.take_of_length_le (by have:=HN.out;omega)
   rw[ht] at hM;have HA2:Hid (∀p∈l,pairB p=true):=by unfold Hid at HA ⊢;rw[ht] at HA;exact HA
   clear ht;go_wp2;go_ret2;exact Or.inl ⟨HA2.out,w.heap.size+1,rfl,by omega,⟨w.heap.size,HB.out,by omega,hM⟩,hb⟩
set_option maxRecDepth 100000 in
set_option maxHeartbeats 400000 in
theorem cloneInts_own(a:Option Addr)(n cap:Nat)(es:List Int)(w:World)(hn:es.length=n)(hr:RowAt w a (encInts es))(hc:n≤4398046511104) :
 Calls Tryz.prog 117 #[.slice a n cap] w fun e w'=>∃a' cap',e=.returned (.slice a' n cap')∧w'.ownsRow w.heap.size 3 1 (.slice a' n cap') n (encInts es)∧Below w.heap.size w w':=by
 have HN:=Lib.hid hn;obtain⟨i0,hi,hz0,hz1,hz2⟩:=info_parts info_int;have hi':=Lib.hid hi;have hz0':=Lib.hid hz0;have hz1':=Lib.hid hz1;have hz2':=Lib.hid hz2;clear hi hz0 hz1 hz2 hn;have hq:=fun(W:World) (a:Option Addr) (l c:Nat)=>Lib.run_eql_slice_nil (P:=Tryz.prog) W 72 3 a l c 0 0 Tryz.underlying72
 cases a with
 | none=>
  have hnil:es=[]:=by
   rcases hr with h|⟨b,off,h,_⟩
   ·have:=encInts_length es;rw[h] at this;exact List.eq_nil_of_length_eq_zero (by simp at this;omega)
   ·cases h
  have h0:n=0:=by have:=HN.out;rw[hnil] at this;exact this.symm
  subst h0;have HNIL:=Lib.hid hnil;clear hnil;go_enter Tryz.func117,Tryz.ntmps117;go_wp2;go_ret;exact⟨none,0,rfl,by rw[HNIL.out];exact World.ownsRow_nil _ _ _ _,Below.refl _ _⟩
 | some ad=>
  have hown:(w.alloc (.cells #[] 3)).ownsRow w.heap.size 3 1 (.slice (some ⟨w.heap.size,0,none⟩) 0 0) 0 []:=World.ownsRow_made w #[] 0 (Nat.le_refl _) (by simp[maxLen]) rfl;go_enter Tryz.func117,Tryz.ntmps117;go_wp2_with (at_builtin;refine wpList_append2 _ rfl (.tmp 5) (.tmp 6) 72 rfl w.heap.size 3 i0 _ 1 8 Tryz.underlying72 hi'.out hz0'.out hz1'.out hz2'.out rfl (by decide) (.slice (some ⟨w.heap.size,0,none⟩) 0 0) 0 [] rfl ?_ _ n cap (encInts es) rfl (by rw[encInts_length,HN.out];omega) ?_ ?_ ?_ ?_ ?_ ?_;exact hown;exact hr.below ((Below.refl _ _).alloc (Nat.le_refl _) _);exact encInts_one _;unfold maxLen;omega;omega;(simp);intro v1 w5 ho1 hg1 hq hm1;clear hq hm1);go_ret;obtain⟨a',cap',rfl⟩:=owned_shape ho1;rw[List.nil_append,Nat.zero_add] at ho1;refine⟨a',cap',by simp,ho1,((Below.refl _ _).alloc (Nat.le_refl _) _).grown hg1 (by simp) (fun j e=>?_)⟩;simp[Value.ownBlock] at e;omega
def newN(ds:List Int)(all:Int):Int→Option NP:=fun i=>if i∈ds then some ⟨2,0,all,0,0,[]⟩ else none
theorem newN_nil(all:Int):newN [] all=fun _=>none:=funext fun i=>by simp[newN]
theorem newN_put(ds:List Int)(all i:Int):putN (newN ds all) i ⟨2,0,all,0,0,[]⟩=newN (ds++[i]) all:=funext fun j=>by
 unfold putN newN
 by_cases e:j=i
 ·subst e;simp
 ·simp[e]
theorem node_wfN{n:Int}(h:nodeB n=true):(Lit.int .i64 n).wf=true:=by
 simp only[nodeB,decide_eq_true_eq] at h;have h1:IntKind.i64.min=-9223372036854775808:=by decide +kernel
 have h2:IntKind.i64.max=9223372036854775807:=by decide +kernel
 simp only[Lit.wf,Bool.and_eq_true,decide_eq_true_eq,h1,h2];omega
theorem RowAt.frN{S:Nat→Prop}{w w':World}{a:Option Addr}{cs:List Value}(h:RowAt w a cs)(hf:Fr S w w')(hS:∀k,S k→∃es clock,w.heap[k]?=some (.map es clock)):RowAt w' a cs:=by
 rcases h with h|⟨b,off,rfl,hlt,hc⟩
 ·exact Or.inl h
 ·by_cases hcs:cs=[]
  ·exact Or.inl hcs
  ·obtain⟨v,r,rfl⟩:=List.exists_cons_of_ne_nil hcs
   have hn:¬S b:=fun hs=>by
    obtain⟨es,clock,hm⟩:=hS b hs;have:=hc 0 v rfl;simp[World.cell?,hm] at this
   refine Or.inr ⟨b,off,rfl,Nat.lt_of_lt_of_le hlt hf.size,fun i u hu=>?_⟩;have h1:=hc i u hu;simp only[World.cell?,hf.block b hlt hn] at h1 ⊢;exact h1
theorem pairs_take(k:Nat)(hk:k<16):allPairs.take (k+1)=allPairs.take k++[(((k/4:Nat):Int),((k%4:Nat):Int))]:=by
 have h:∀k:Fin 16,allPairs.take (k.val+1)=allPairs.take k.val++[(((k.val/4:Nat):Int),((k.val%4:Nat):Int))]:=by decide
 exact h ⟨k,hk⟩
set_option maxRecDepth 100000 in
set_option maxHeartbeats 1600000 in
theorem cNew_bad(ea:Nat→Addr)(a:Option Addr)(n cap:Nat)(l:List Int)(w:World)(hg:Glob w ea [5,7,4])(hn:l.length=n)(hr:RowAt w a (encInts l))(hc:n≤4611686018427387904)(hb:(planF l).1≠0) :
 Calls Tryz.prog 69 #[.slice a n cap] w fun e w'=>∃v,e=.returned (.tuple #[.pointer none,v])∧ErrIs ea w' v (planF l).1 (planF l).2∧Below w.heap.size w w':=by
 have C:=Lib.hid (planCrew_any ea a n cap l w hg hn hr hc);have HB:=Lib.hid hb;clear hg hn hr hb;go_enter Tryz.func69,Tryz.ntmps69;go_wp2_with fail;refine C.out.mono ?_;rintro e w1⟨v,rfl,hE,hb1⟩;obtain⟨t,x,rfl⟩:=hE.held HB.out;have HE:=Lib.hid hE;clear hE;go_wp2;go_ret2;exact⟨_,rfl,HE.out,hb1⟩
set_option maxRecDepth 100000 in
set_option maxHeartbeats 6400000 in
theorem cNew_ok(ea:Nat→Addr)(a:Option Addr)(n cap:Nat)(l:List Int)(w:World)(hg:Glob w ea [2,5,7,4])(hn:l.length=n)(hr:RowAt w a (encInts l))(hp:(planF l).1=0) :
 Calls Tryz.prog 69 #[.slice a n cap] w fun e w'=>∃L:CL,e=.returned (.tuple #[.pointer (some ⟨L.cb,0,none⟩),.nilIface])∧ClusAt w' L (CP.new l)∧Fresh w.heap.size L∧Below w.heap.size w w':=by
 have hpl:=planF_ok hp;have C:=Lib.hid (planCrew_any ea a n cap l w (hg.sub (by simp)) hn hr (by omega));rw[hpl.1,planCrewF,if_pos hp] at C;obtain⟨i0,hi,hz0,hz1,hz2⟩:=info_parts info_pair;have hi':=Lib.hid hi;have hz0':=Lib.hid hz0;have hz1':=Lib.hid hz1;have hz2':=Lib.hid hz2;have HG:=Lib.hid hg;have HN:=Lib.hid hn;have HR:=Lib.hid hr;have HPL:=Lib.hid hpl;clear hi hz0 hz1 hz2 hg hn hr hpl hp;go_enter Tryz.func69,Tryz.ntmps69;go_wp2_with fail;refine C.out.mono ?_;rintro e w1⟨v,rfl,hE,hb1⟩;obtain rfl:=hE.nil;clear hE;generalize hall:((crewOf l:Nat):Int)=all at *;have HALL:=Lib.hid hall;clear hall C;go_wp2;go_loopw [6,21] (fun v i wr=>∃k:Nat,k≤4∧i=.int .i64 k∧wr.ownsRow w1.heap.size 176 2 v (4*k) (encPairs (allPairs.take (4*k)))∧Below w1.heap.size w1 wr) (fun _ i _=>4-(intOf i).toNat)
 case atStart=>exact⟨0,by omega,rfl,World.ownsRow_nil _ _ _ _,Below.refl _ _⟩
 case round=>
  obtain⟨k,hk,rfl,ho,hb⟩:=hrel
  by_cases hlt:k<4
  ·have hi1:(k:Int)<4:=by omega
   have hk0:(0:Int)≤(k:Int):=by omega
   obtain⟨wo,rfl⟩:∃wo:World,wo=wr:=⟨_,rfl⟩
   have HBO:=Lib.hid hb;clear hb;go_wp2;go_loopw [6,24] (fun v j wr=>∃m:Nat,m≤4∧j=.int .i64 m∧wr.ownsRow w1.heap.size 176 2 v (4*k+m) (encPairs (allPairs.take (4*k+m)))∧Below w1.heap.size w1 wr) (fun _ j _=>4-(intOf j).toNat)
   case atStart=>exact⟨0,by omega,rfl,ho,HBO.out⟩
   case round=>
    clear ho;obtain⟨m,hm,rfl,ho,hb⟩:=hrel
    by_cases hlm:m<4
    ·have hj1:(m:Int)<4:=by omega
     have hm0:(0:Int)≤(m:Int):=by omega
     have ht:=Lib.hid (pairs_take (4*k+m) (by omega));have e1:(4*k+m)/4=k:=by omega
     have e2:(4*k+m)%4=m:=by omega
     have ht2:Hid (allPairs.take (4*k+(m+1))=allPairs.take (4*k+m)++[((k:Int),(m:Int))]):=by
      have h:=ht.out;rw[e1,e2] at h;exact h
     have HO:=Lib.hid ho;have HB:=Lib.hid hb;have hsz:=hb.size;clear ho hb e1 e2 ht;go_wp2_with (at_builtin;refine wpList_append2 _ rfl (.tmp 27) (.tmp 31) 174 rfl w1.heap.size 176 i0 _ 2 16 Tryz.underlying174 hi'.out hz0'.out hz1'.out hz2'.out rfl (by decide) u6 (4*k+m) (encPairs (allPairs.take (4*k+m))) rfl ?_ (some ⟨wr.heap.size,0,none⟩) 1 1 (pairC ((k:Int),(m:Int))) rfl rfl ?_ ?_ ?_ ?_ ?_ ?_;exact HO.out.alloc _;exact RowAt.new_at _ (pairC ((k:Int),(m:Int))) _ _ rfl;exact pairC_one _;unfold maxLen;omega;omega;(simp;omega);intro v5 w5 ho5 hg5 hq5 hm5;clear hq5 hm5);have hb5:Below w1.heap.size w1 w5:=(HB.out.alloc hsz _).grown hg5 (by simp;omega) (fun j e=>(HO.out.lt j e).1);have ho6:w5.ownsRow w1.heap.size 176 2 v5 (4*k+(m+1)) (encPairs (allPairs.take (4*k+(m+1)))):=by rw[ht2.out,encPairs_snoc];exact ho5
     clear ho5 hg5;go_roundw
     case rel=>exact⟨m+1,by omega,by go_num,ho6,hb5⟩
     case measure=>simp[intOf];omega
    ·obtain rfl:m=4:=by omega
     have ho6:wr.ownsRow w1.heap.size 176 2 u6 (4*(k+1)) (encPairs (allPairs.take (4*(k+1)))):=ho;have hb6:=hb;clear ho hb;go_wp2;go_roundw
     case rel=>exact⟨k+1,by omega,by go_num,ho6,hb6⟩
     case measure=>simp[intOf];omega
  ·obtain rfl:k=4:=by omega
   have ho6:wr.ownsRow w1.heap.size 176 2 u6 16 (encPairs allPairs):=ho;obtain⟨pa,pc,rfl⟩:=owned_shape ho6;have hbr:Below w.heap.size w wr:=onto hb1 hb
   have CM:Hid (Calls Tryz.prog 116 #[.slice pa 16 pc] wr fun e w'=>∃b,e=.returned (.tuple #[.pointer (some ⟨b,0,none⟩),.nilIface])∧wr.heap.size≤b∧BoardAt w' b allPairs 0 (-1)∧Below wr.heap.size wr w'):=by
    refine(new_any ea pa 16 pc allPairs wr ((HG.out.below hbr).sub (by simp)) rfl (ownsRow_at ho6) (by omega)).mono ?_;rintro e w' (⟨_,b,h1,h2,h3,h4⟩|⟨i,hi,hp,_⟩)
    ·exact⟨b,h1,h2,h3,h4⟩
    ·have:=allPairs_ok _ (List.getElem_mem hi);rw[hp] at this;simp at this
   have HBR:=Lib.hid hbr;clear ho ho6 hb hbr;go_wp2_with fail;refine CM.out.mono ?_;rintro e w5⟨bb,rfl,hbb,⟨mm,hB⟩,hb5⟩;have hb5':Below w.heap.size w w5:=onto HBR.out hb5;have CC:=Lib.hid (cloneInts_own a n cap l w5 HN.out (HR.out.below hb5') (by have:=HPL.out;have:=HN.out;omega));have hbb0:w.heap.size≤bb:=Nat.le_trans HBR.out.size hbb;have HBB:=Lib.hid hB;have HB5:=Lib.hid hb5';clear hB hb5 hb5' CM;go_wp2_with fail;refine CC.out.mono ?_;rintro e w6⟨la,lc,rfl,hol,hb6⟩;have hmk:=@run_makeMap Tryz.prog;have hb6':Below w.heap.size w w6:=onto HB5.out hb6;have hBB6:=HBB.out.kept (below_grows hb6 none) (by simp) (by simp);have hmmlt:mm<w6.heap.size:=hBB6.2.2.lt;have HBB6:=Lib.hid hBB6;have HOL:=Lib.hid hol;have HB6:=Lib.hid hb6';clear hb6 hb6' hBB6 hol CC;go_wp2;obtain⟨W7,hW7⟩:∃W7,W7=(w6.alloc (.map #[] 0)).alloc (.cells #[.slice la n lc,.int .i64 0,.pointer (some ⟨bb,0,none⟩),.map (some w6.heap.size)] 141):=⟨_,rfl⟩
   have hb67:Below w6.heap.size w6 W7:=by rw[hW7];exact((Below.refl _ _).alloc (Nat.le_refl _) _).alloc (by simp) _
   have hblk:W7.heap[w6.heap.size+1]?=some (.cells #[.slice la n lc,.int .i64 0,.pointer (some ⟨bb,0,none⟩),.map (some w6.heap.size)] 141 (0,0)):=by
    rw[hW7];have h1:=heap_alloc_new (w6.alloc (.map #[] 0)) (.cells #[.slice la n lc,.int .i64 0,.pointer (some ⟨bb,0,none⟩),.map (some w6.heap.size)] 141);simpa using h1
   have hN7:NodesP W7 w6.heap.size (newN (l.take 0) all) 0:=by
    rw[hW7,List.take_zero,newN_nil];exact(NodesP.made w6).below ((Below.refl _ _).alloc (Nat.le_refl _) _)
   have hz7:W7.heap.size=w6.heap.size+2:=by rw[hW7];simp
   rw[←hW7];clear hW7 hmk;have HBLK:=Lib.hid hblk;have HZ7:=Lib.hid hz7;have HB67:=Lib.hid hb67;have HM7:=Lib.hid hN7.map;clear hblk hz7 hb67;go_loopw [51] (fun i wr=>∃k q:Nat,k≤n∧i=.int .i64 k∧NodesP wr w6.heap.size (newN (l.take k) all) q∧q≤k∧Fr (fun j=>j=w6.heap.size) W7 wr) (fun i _=>n-(intOf i).toNat)
   case atStart=>exact⟨0,0,Nat.zero_le _,rfl,hN7,Nat.le_refl _,Fr.refl _ _⟩
   case round=>
    clear hN7;obtain⟨k,q,hk,rfl,hN,hq,hF⟩:=hrel;have hn32:n≤32:=by have:=HPL.out;have:=HN.out;omega
    by_cases hlt:k<n
    ·have hkl:k<l.length:=by have:=HN.out;omega
     have hrw:=((HR.out.below HB6.out).below HB67.out).frN hF (fun j e=>by subst e;exact HM7.out);obtain⟨b,off,rfl,hbl,c0⟩:=hrw.int k hkl;have hnn:=HPL.out.2.2.2 _ (List.getElem_mem hkl);have hwn:=node_wfN hnn;have HTK:=Lib.hid (List.take_succ_eq_append_getElem hkl)
     have k3:wr.cell? ⟨w6.heap.size+1,3,none⟩=some (.map (some w6.heap.size)):=by
      have h1:=cell_of_row W7 _ 3 _ _ _ HBLK.out;have h2:=hF.block (w6.heap.size+1) (by have:=HZ7.out;omega) (by omega);simp only[World.cell?,h2] at h1 ⊢;exact h1
     have hi0:(0:Int)≤(k:Int):=by omega
     have hi1:(k:Int)<(n:Int):=by omega
     generalize l[k]=x at *;have HNx:=Lib.hid hN;have HF:=Lib.hid hF;clear hN hF hrw hkl hnn;go_wp2_with (at_mapUpdate;refine wpList_put_nodes rfl _ _ _ rfl (mb:=w6.heap.size) (g:=newN (l.take k) all) (q:=q) (i:=x) (x:=⟨2,0,all,0,0,[]⟩) (sl:=.slice none 0 0) rfl HNx.out (by omega) rfl rfl hwn (HRow.nil _) ?_;intro w9 hN9 hg9)
     have hN9':Hid (∃q',q'≤k+1∧NodesP w9 w6.heap.size (newN (l.take (k+1)) all) q'):=by
      rw[newN_put,←HTK.out] at hN9;refine⟨_,?_,hN9⟩
      split<;>omega
     have HF9:Hid (Fr (fun j=>j=w6.heap.size) W7 w9):=HF.out.trans (Fr.grown hg9 (fun k e=>by injection e with e;exact e.symm));clear hN9 hg9;obtain⟨q',hq',hNq⟩:=hN9';go_roundw
     case rel=>(first|exact⟨k+1,q',by omega,by go_num,hNq,hq',HF9.out⟩|((repeat apply Exists.intro);exact⟨⟨k+1,q',by omega,by go_num,hNq,hq',HF9.out⟩,rfl⟩))
     case measure=>simp[intOf];omega
    ·obtain rfl:k=n:=by omega
     have hfull:newN (l.take k) all=(CP.new l).f:=by
      rw[List.take_of_length_le (by have:=HN.out;omega),←HALL.out];rfl
     rw[hfull] at hN;have hb7:Below w.heap.size w W7:=onto HB6.out HB67.out;have hbr:Below w.heap.size w wr:=hF.base hb7 (fun j e=>by rw[e];exact HB6.out.size);have hz:=HZ7.out;have hln:=HN.out
     have hA:ClusAt wr ⟨w6.heap.size+1,bb,w6.heap.size,mm,la,lc⟩ (CP.new l):=by
      have hpl6:W7.ownsRow 0 3 1 (.slice la l.length lc) l.length (encInts l):=by rw[hln];exact ownsRow_below (ownsRow_rebase HOL.out (Nat.zero_le _)) HB67.out
      refine⟨?_,?_,?_,⟨q,by omega,hN⟩,by dsimp only;omega⟩
      ·have:=(hF.block (w6.heap.size+1) (by omega) (by omega)).trans HBLK.out
       rw[←hln] at this;exact this
      ·exact ownsRow_fr hpl6 hF (fun j cur hj e=>by
        obtain⟨es2,clock2,hm2⟩:=HM7.out
        rw[e,hm2] at hj;cases hj)
      ·exact(HBB6.out.kept (below_grows HB67.out none) (by simp) (by simp)).fr hF (fun e=>by have:=(Array.getElem?_eq_some_iff.1 HBB6.out.1).1;omega) (by omega)
     have HA:=Lib.hid hA;have HBR2:=Lib.hid hbr;clear hN hF hfull hb7 hA hbr;go_wp2;go_ret2;exact⟨_,rfl,HA.out,⟨by have:=HB6.out.size;dsimp only;omega,hbb0,HB6.out.size⟩,HBR2.out⟩
end Go.Proofs.YtppfkokfnoeopaaGreatDoor
namespace Go.Proofs.YtppfkokfnoeopaaGreatDoor
open Go.RowKit
structure ActR where
 kind:List UInt8
 n:Int
 m:Int
 la:Option Addr
 lc:Nat
 lost:List Int
 deriving Inhabited
def ActR.cells(a:ActR):List Value:=[.string ⟨a.kind.toArray⟩,.int .i64 a.n,.int .i64 a.m,.slice a.la a.lost.length a.lc]
theorem ActR.len(a:ActR):a.cells.length=4:=rfl
def ActR.Ok(w:World)(a:ActR):Prop:=(Lit.int .i64 a.n).wf=true∧(Lit.int .i64 a.m).wf=true∧RowAt w a.la (encInts a.lost)∧a.lost.length≤maxLen∧a.kind.length≤maxLen
theorem ActR.Ok.below{w w':World}{a:ActR}(h:a.Ok w)(hb:Below w.heap.size w w'):a.Ok w':=⟨h.1,h.2.1,h.2.2.1.below hb,h.2.2.2⟩
theorem any_take_snoc{α:Type}(l:List α)(p:α→Bool)(k:Nat)(hk:k<l.length):(l.take (k+1)).any p=((l.take k).any p||p l[k]):=by
 rw[List.take_succ_eq_append_getElem hk,List.any_append];simp
end Go.Proofs.YtppfkokfnoeopaaGreatDoor
namespace Go.Proofs.YtppfkokfnoeopaaGreatDoor
open Go.RowKit Go.Maps
theorem cSlot_any(ea:Nat→Addr)(L:CL)(c:CP)(la:Option Addr)(ln lc:Nat)(lost:List Int)(w:World)(hE:EnvC ea L w)(h:ClusAt w L c)(hI:InvP c)(hll:lost.length=ln)(hlr:RowAt w la (encInts lost))(hlc:ln≤1000) :
 Calls Tryz.prog 137 #[.pointer (some ⟨L.cb,0,none⟩),.slice la ln lc] w fun e w'=>e=.returned (.tuple #[.string ⟨c.slotT.toArray⟩,errV ea (c.slotF lost).2])∧ClusAt w' L (c.slotF lost).1∧Fr L.own w w':=by
 by_cases ht:c.time<200
 ·refine(cSlot_ok ea L c la ln lc lost w hE h hI ht hll hlr hlc).mono ?_
  rintro e w'⟨rfl,h1,h2⟩;rw[CP.slotT,CP.slotF,if_pos ht,if_pos ht];exact⟨by rw[errV_zero],h1,h2⟩
 ·refine(cSlot_full ea L c la ln lc w ((hE _ (Fr.refl _ _)).1.sub (by simp)) h (by omega)).mono ?_
  rintro e w'⟨rfl,h1,h2⟩;rw[CP.slotT,CP.slotF,if_neg ht,if_neg ht];exact⟨rfl,h1,Fr.of h2⟩
theorem EnvC.fr{ea:Nat→Addr}{L:CL}{w w':World}(h:EnvC ea L w)(hf:Fr L.own w w'):EnvC ea L w':=fun W hW=>h W (hf.trans hW)
end Go.Proofs.YtppfkokfnoeopaaGreatDoor
