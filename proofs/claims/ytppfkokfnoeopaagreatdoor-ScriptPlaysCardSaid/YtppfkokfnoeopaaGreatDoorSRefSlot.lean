/- A part of a proof. -/
import Derived.Test.YtppfkokfnoeopaaGreatDoorSClusBack
import Derived.Test.YtppfkokfnoeopaaGreatDoorSRef19
import Derived.Test.YtppfkokfnoeopaaGreatDoorSStep
set_option maxRecDepth 400000
set_option maxHeartbeats 6400000
namespace Go.Proofs.YtppfkokfnoeopaaGreatDoor
open Go.RowKit Go.Maps Go.Proofs.Tryz
theorem X8{w w':World}{R:RL}{la:Option Addr}{lost:List Int}(h:Ac w la (Aa lost))(hf:Fr R.own w w')(hl:lost≠[]→∀b off,la=some ⟨b,off,none⟩→b≠R.cb∧b≠R.nb):Ac w' la (Aa lost):=by
 by_cases h0:lost=[]
 ·exact Or.inl (by rw[h0];rfl)
 ·exact h.off hf (fun b off e _ hs=>by
   have h3:=hl h0 b off e
   rcases hs with h4|h4
   ·exact h3.1 h4
   ·exact h3.2 h4)
theorem zAo(R:RL)(rs:List RN)(c:CP)(la:Option Addr)(ln lc:Nat)(w:World)(h:An w R rs c)(ht:200≤c.time) :
 Calls prog 93 #[.pointer (some ⟨R.cb,0,none⟩),.slice la ln lc] w fun e w'=>e=.returned (.tuple #[.string ⟨#[]⟩,.int .i64 7])∧w=w':=by
 obtain⟨c0,c1,c2,c3,c4⟩:=h.cells;have hd:decide ((200:Int)≤(c.time:Int))=true:=by simp;omega
 clear h;go_enter func93,ntmps93;go_wp2;go_ret2;exact⟨rfl,rfl⟩
theorem zEc{plan:List Int}{who:Int}{lost:List Int}{sent:List UInt8}{i:Int}{x:NP}(h:x.st≠2):NP.step plan who lost sent i x=x:=by rw[NP.step,if_neg h]
set_option maxRecDepth 1000000 in
set_option maxHeartbeats 12800000 in
theorem zG3(R:RL)(rs:List RN)(c:CP)(la:Option Addr)(ln lc:Nat)(lost:List Int)(w:World)(h:An w R rs c)(hI:Ce c)(ht:c.time<200)(hll:lost.length=ln)(hlr:Ac w la (Aa lost))(hlc:ln≤1000)(hlf:lost≠[]→∀b off,la=some ⟨b,off,none⟩→b≠R.cb∧b≠R.nb) :
 Calls prog 93 #[.pointer (some ⟨R.cb,0,none⟩),.slice la ln lc] w fun e w'=>e=.returned (.tuple #[.string ⟨c.sent.toArray⟩,.int .i64 0])∧(∃rs',An w' R rs' (c.slot (Da c.plan.length) lost))∧Fr R.own w w':=by
 obtain⟨c0,c1,c2,c3,c4⟩:=h.cells;obtain⟨l1,l2⟩:=h.lt;have hpl:=Ai hI.plan;have hd:decide ((200:Int)≤(c.time:Int))=false:=by simp;omega
 have hm:c.time%c.plan.length<c.plan.length:=Nat.mod_lt _ (by omega);obtain⟨pb,po,hpa,hpbl,p0⟩:=zH7 h.plan (c.time%c.plan.length) hm;have hwv:Hid (c.plan.getD (c.time%c.plan.length) 0=Am c.plan c.time):=rfl;have hwm:=D0 c.plan c.time hpl.2.1
 obtain⟨z,hz⟩:∃z,c.f (Am c.plan c.time)=some z:=by
  have h1:=hI.dom (Am c.plan c.time);rw[decide_eq_true hwm] at h1;exact Option.isSome_iff_exists.1 h1
 have hzN:=hI.node _ z hz;rw[hwv.out] at p0;have hst:∀i x,c.f i=some x→x.st=0∨x.st=1∨x.st=2:=fun i x hf=>(hI.node i x hf).st
 obtain⟨kw,hkw,hidx,hkn,hkf⟩:∃(k:Nat) (hk:k<rs.length),Oa rs 0 (Am c.plan c.time)=k∧rs[k].n=Am c.plan c.time∧c.f (Am c.plan c.time)=some rs[k].x:=by
  rcases h.look (Am c.plan c.time) with⟨hf,_⟩|hx
  ·rw[hz] at hf;cases hf
  ·exact hx
 have hzx:rs[kw].x=z:=by rw[hz] at hkf;exact(Option.some.inj hkf).symm
 have KF:=zh (fun k:Nat=>Hv R rs c (Am c.plan c.time) (w.drewN k) (h.drewN k));rw[hidx] at KF;have hl16:=h.len
 have hsnd:(z.st=2∧c.sent=Ei c.plan z.m z.d z.s (Am c.plan c.time) z.val∧Fd c.plan z.m z.d z.s (Am c.plan c.time) z.val=(0,-1))∨(z.st≠2∧c.sent=[]):=by
  by_cases hst:z.st=2
  ·have h1:=(Jh hzN hI.plan hst (by omega)).1
   exact Or.inl ⟨hst,by rw[CP.sent,hz];simp only[hst,if_true],h1⟩
  ·exact Or.inr ⟨hst,by rw[CP.sent,hz];simp only[hst,if_false]⟩
 have hn0:0<c.plan.length:=hpl.2.1;have hnz:((c.plan.length:Int)==0)=false:=beq_eq_false_iff_ne.2 (by omega);have hq0:(0:Int)≤((c.time%c.plan.length:Nat):Int):=by omega
 have hl32:c.plan.length≤32:=hpl.2.2.1;have HST:=zh hst;have HI:=zh hI;have H:=zh h;have HZ:=zh hz;have HSND:=zh hsnd;have HKN:=zh hkn;have HZX:=zh hzx;have HLR:=zh hlr;have HLL:=zh hll;have HLF:=zh hlf;have hkw0:(0:Int)≤(kw:Int):=by omega
 have hkw1:(kw:Int)<(rs.length:Int):=by omega
 have hkwn:kw<16:=by omega
 clear h hI hz hsnd hkn hkf hlr hll hlf hst hpl hzN hidx hwm hwv;obtain⟨who,hwho⟩:∃v,v=Am c.plan c.time:=⟨_,rfl⟩
 have HWHO:=zh hwho.symm;rw[←hwho] at p0 KF;obtain⟨B,hB⟩:∃B,(z.st==2)=B:=⟨_,rfl⟩
 have HB:=zh hB;clear hwho;rw[hpa] at c0;clear hpa;go_enter func93,ntmps93;go_wp2;go_quiet (fail);go_wp2_with fail;refine(KF.out nq).mono ?_;rintro e w1⟨rfl,rfl⟩;have hR1:=H.out.drewN nq;have hb1:=Ab (Below.refl w.heap.size w) nq;generalize w.drewN nq=w1 at *;obtain⟨c0,c1,c2,c3,c4⟩:=hR1.cells;obtain⟨n0,n1,n2,n3,n4,n5,n6⟩:=hR1.at kw hkw;rw[HZX.out] at n1 n2 n3 n4 n5 n6;obtain⟨l1,l2⟩:=hR1.lt;have hpp:=hR1.plan;have hl1000:c.plan.length≤4611686018427387904:=by omega
 have KS:=zh (fun(W:World) (hb:Below w1.heap.size w1 W)=>zAu R.pa c.plan.length R.pc c.plan z.m z.d z.s who z.val W rfl (hpp.below hb) hl1000);have hne:=hR1.ne;have HR1:=zh hR1;have HB1:=zh hb1;clear KF hpp hR1 hb1 p0;go_upto_if 52 with(fail);go_cut [8] (fun s8 wx=>s8=.string ⟨c.sent.toArray⟩∧Below w.heap.size w wx)
 case first=>
  as_aux_lemma=>
   clear hB
   cases B
   ·have hst:z.st≠2:=by simpa using HB.out
    have HS1:Hid (c.sent=[]):=by
     rcases HSND.out with⟨h2,_⟩|⟨_,h⟩
     ·exact absurd h2 hst
     ·exact h
    clear hst;go_wp2_with fail;go_meet
    case rel=>exact⟨by rw[HS1.out],HB1.out⟩
   ·have hst:z.st=2:=by simpa using HB.out
    obtain⟨hs1,hs2⟩:c.sent=Ei c.plan z.m z.d z.s who z.val∧Fd c.plan z.m z.d z.s who z.val=(0,-1):=by
     rcases HSND.out with⟨_,h⟩|⟨h2,_⟩
     ·rw[HWHO.out] at h;exact h
     ·exact absurd hst h2
    rw[hs2,←hs1] at KS;dsimp only at KS;rw[show((0:Nat):Int)=0 from rfl] at KS;clear hst hs1 hs2;go_wp2
    go_region_held3 (fun w'=>w'.cell? ⟨R.cb,0,none⟩=some (.slice R.pa c.plan.length R.pc)∧w'.cell? ⟨R.cb,4,none⟩=some (.slice (some ⟨R.nb,R.off,none⟩) rs.length R.nc)∧w'.cell? ⟨R.nb,R.off+kw*7+2,none⟩=some (.int .i64 z.val)∧w'.cell? ⟨R.nb,R.off+kw*7+3,none⟩=some (.int .i64 z.m)∧w'.cell? ⟨R.nb,R.off+kw*7+4,none⟩=some (.int .i64 z.d)∧w'.cell? ⟨R.nb,R.off+kw*7+5,none⟩=some (.int .i64 z.s))
     (first|go_keep|(refine⟨?_,?_,?_,?_,?_,?_⟩<;>(simp(disch:=(simp;omega)) only[World.cell?_setCell_far];assumption)))
     ((go_at_call 145;(with_reducible refine(KS.out _ ?_).mono ?_);exact(by first|exact Ab zb 1|exact(Ab zb 1).alloc (by simp) _);rintro e w7⟨rfl,hb7⟩;have hz7:=hb7.size;(first|(have hx7:=zHb hb7;obtain⟨ma0,ma1,fa0,fa1,mlt,hbw7⟩:=hx7)|(have hbw7:=zJf hb7));have d0:w7.cell? ⟨R.cb,0,none⟩=some (.slice R.pa c.plan.length R.pc):=(hb7.cell (p:=⟨R.cb,0,none⟩) (by simp;omega)).trans (by simp[*]);have d1:w7.cell? ⟨R.cb,4,none⟩=some (.slice (some ⟨R.nb,R.off,none⟩) rs.length R.nc):=(hb7.cell (p:=⟨R.cb,4,none⟩) (by simp;omega)).trans (by simp[*]);have d2:w7.cell? ⟨R.nb,R.off+kw*7+2,none⟩=some (.int .i64 z.val):=(hb7.cell (p:=⟨R.nb,R.off+kw*7+2,none⟩) (by simp;omega)).trans (by simp[*]);have d3:w7.cell? ⟨R.nb,R.off+kw*7+3,none⟩=some (.int .i64 z.m):=(hb7.cell (p:=⟨R.nb,R.off+kw*7+3,none⟩) (by simp;omega)).trans (by simp[*]);have d4:w7.cell? ⟨R.nb,R.off+kw*7+4,none⟩=some (.int .i64 z.d):=(hb7.cell (p:=⟨R.nb,R.off+kw*7+4,none⟩) (by simp;omega)).trans (by simp[*]);have d5:w7.cell? ⟨R.nb,R.off+kw*7+5,none⟩=some (.int .i64 z.s):=(hb7.cell (p:=⟨R.nb,R.off+kw*7+5,none⟩) (by simp;omega)).trans (by simp[*])))
    all_goals
     go_wp2_with fail;go_meet
     case rel=>
      have hzw:=hbw7.size;refine⟨rfl,HB1.out.trans (Below.mono ?_ HB1.out.size)⟩
      repeat(with_reducible first|exact hbw7|refine Below.setCell ?_ ?_ _|refine Below.alloc ?_ ?_ _)
      all_goals(first|omega|(simp;done)|(simp;omega))
 case rest=>
  obtain⟨rfl,hbc⟩:=hcut;have hR0:=H.out.below hbc;obtain⟨ns,hns⟩:∃ns,ns=rs.map RN.n:=⟨_,rfl⟩
  obtain⟨n,hnn⟩:∃n,n=rs.length:=⟨_,rfl⟩
  have hnl:ns.length=n:=by rw[hns,hnn];simp
  rw[←hnn] at hl16 hkw1;have HRI:Hid (ns.Pairwise (· < ·)):=by unfold Hid;rw[hns];exact H.out.rise
  have HNS:=zh hns.symm;have HNL:=zh hnl;have HDM:=zh (fun i x (hf:c.f i=some x)=>(by rw[hns];exact H.out.dom i (by rw[hf];rfl):i∈ns));have hkwn2:kw<ns.length:=by omega
  have HKW:Hid (ns[kw]=who):=by unfold Hid;rw[←HWHO.out,←HKN.out];subst hns;simp
  have hR1:An wc R rs ⟨c.plan,c.time,c.now,c.asked,D9 (ns.take 0) c.f (NP.step c.plan who lost c.sent)⟩:=by rw[List.take_zero,Oo];exact hR0
  have hrsl:rs.length=n:=hnn.symm;have hF0:Fr R.own w wc:=Fr.of hbc;have HF0:=zh hF0;clear hns hnl c0 c1 c2 c3 c4 n0 n1 n2 n3 n4 n5 n6 l1 l2 hR0 hbc hB KS HR1 HB1 hq0 hnz hm hpbl hzx HZX HKN hnn hkw;go_wp2;go_loopw [11] (fun i wr=>∃(k:Nat) (rs':List RN),k≤n∧i=.int .i64 k∧rs'.length=n∧rs'.map RN.n=ns∧An wr R rs' ⟨c.plan,c.time,c.now,c.asked,D9 (ns.take k) c.f (NP.step c.plan who lost c.sent)⟩∧Fr R.own w wr) (fun i _=>n-(intOf i).toNat)
  case atStart=>exact⟨0,rs,Nat.zero_le _,rfl,hrsl,HNS.out,hR1,hF0⟩
  case round=>
   clear hR1 hF0 hrsl;obtain⟨k,rs',hk,rfl,hl',hn',hR,hF⟩:=hrel;obtain⟨c0,c1,c2,c3,c4⟩:=hR.cells;rw[hl'] at c4;obtain⟨hlb,hlnb⟩:=hR.lt
   by_cases hlt:k<n
   ·obtain⟨hfk,hrow,hnt,htk⟩:=hR.mid hn' HRI.out (by omega)
    obtain⟨n0,n1,n2,n3,n4,n5,n6⟩:=hR.at k (by omega);have nf:=hR.frozen;have hi0:(0:Int)≤(k:Int):=by omega
    have hi1:(k:Int)<(n:Int):=by omega
    have hk16:k<16:=by omega
    have hs3:=HST.out _ _ hfk;have hxN:=HI.out.node _ _ hfk;have hkl:k<rs'.length:=by omega
    have heq:(k=kw)↔(rs'[k].n=who):=by
     have hkn2:k<ns.length:=by rw[HNL.out];exact hlt
     have e1:ns[k]=rs'[k].n:=by subst hn';simp
     constructor
     ·intro e;subst e;rw[←e1];exact HKW.out
     ·intro e
      rw[←e1,←HKW.out] at e;have hp:=List.pairwise_iff_getElem.1 HRI.out
      rcases Nat.lt_trichotomy k kw with q|q|q
      ·have:=hp k kw hkn2 hkwn2 q;omega
      ·exact q
      ·have:=hp kw k hkwn2 hkn2 q;omega
    have HRR:=zh hR;have HF:=zh hF;have HROW:=zh hrow;have HTK:=zh htk;have HFK:=zh hfk;have HN':=zh hn';have HL':=zh hl';have HNT:=zh hnt;have HXN:=zh hxN;have HEQ:=zh heq;generalize hr:rs'[k]=r at *;have HR:=zh hr;clear hR hF hrow htk hfk hn' hl' hnt hxN heq hr
    by_cases h2:r.x.st=2
    ·have hd:decide (r.x.st<2)=false:=by simp;omega
     have hlr2:Ac wr la (Aa lost):=X8 HLR.out HF.out HLF.out;have KI:=zh (Ia r.n la ln lc lost wr HLL.out hlr2 (by omega));obtain⟨BI,hBI⟩:∃B,B=decide (r.n∈lost):=⟨_,rfl⟩
     rw[←hBI] at KI;have HBI:=zh hBI;clear hBI;have H2:=zh h2;clear h2 hs3 hlr2;obtain⟨BH,hBH⟩:∃B,B=decide (r.n≠who∧r.n∈lost):=⟨_,rfl⟩
     have HBH:=zh hBH;clear hBH;go_wp2_with fail;refine KI.out.mono ?_;rintro e w'⟨rfl,rfl⟩;clear KI;go_upto_region 17 with(fail);go_cut [118] from 85 to 165 (fun s118 wx=>s118=.bool BH∧wr=wx)
     case first=>
      as_aux_lemma=>
       cases BI
       ·have hB2:Hid (BH=false):=by
         unfold Hid;rw[HBH.out];exact decide_eq_false (fun h=>by have:=HBI.out;simp[h.2] at this)
        go_wp2_with fail;go_meet
        case rel=>exact⟨by rw[hB2.out],rfl⟩
       ·by_cases hkk:k=kw
        ·have hB2:Hid (BH=false):=by
          unfold Hid;rw[HBH.out];exact decide_eq_false (fun h=>h.1 (HEQ.out.1 hkk))
         have hd3:((k:Int) != (kw:Int))=false:=by subst hkk;simp
         clear hkk;go_wp2_with fail;go_meet
         case rel=>exact⟨by rw[hB2.out],rfl⟩
        ·have hB2:Hid (BH=true):=by
          unfold Hid;rw[HBH.out];exact decide_eq_true ⟨fun e=>hkk (HEQ.out.2 e),by simpa using HBI.out.symm⟩
         have hd3:((k:Int) != (kw:Int))=true:=bne_iff_ne.2 (by omega);clear hkk;go_wp2_with fail;go_meet
         case rel=>exact⟨by rw[hB2.out],rfl⟩
     case rest=>
      obtain⟨rfl,rfl⟩:=hcut;obtain⟨heard,hheard⟩:∃t:List UInt8,t=if r.n≠who∧r.n∈lost then[] else c.sent:=⟨_,rfl⟩
      have HH:=zh hheard;clear hheard;go_upto_if 118 with(fail);go_cut [12] from 85 to 165 (fun s12 wx=>s12=.string ⟨heard.toArray⟩∧wr=wx)
      case first=>
       as_aux_lemma=>
        cases BH
        ·have hB2:Hid (heard=c.sent):=by unfold Hid;rw[HH.out,if_neg (of_decide_eq_false HBH.out.symm)]
         go_wp2_with fail;go_meet
         case rel=>exact⟨by rw[hB2.out],rfl⟩
        ·have hB2:Hid (heard=[]):=by unfold Hid;rw[HH.out,if_pos (of_decide_eq_true HBH.out.symm)]
         go_wp2_with fail;go_meet
         case rel=>exact⟨by rw[hB2.out],rfl⟩
      case rest=>
       obtain⟨rfl,rfl⟩:=hcut
       have H12:Hid (Ee c.plan r.x.m r.x.d r.x.s=(0,-1)):=by
        obtain⟨h1,h2,h3,h4,h5,h6⟩:=HXN.out.on H2.out;have hM:(Cg c.plan r.x.m r.x.d r.x.s).1=0:=by rw[Cg,if_pos HI.out.plan,HXN.out.view H2.out (by omega)]
        unfold Hid;rw[Ee,if_pos hM,if_neg (by omega)]
       have hhl:heard.length≤100000:=by
        rw[HH.out]
        split
        ·simp
        ·have:=HI.out.sent_len;omega
       have K5:=zh (fun(W:World) (hb:Below wr.heap.size wr W)=>zA0 R.pa c.plan.length R.pc c.plan r.x.m r.x.d r.x.s heard W rfl (HRR.out.plan.below hb) (by omega) hhl)
       have HSTP:Hid (NP.step c.plan who lost c.sent r.n r.x=⟨2,r.x.val,(D3 c.plan r.x.m r.x.d r.x.s heard).1,(D3 c.plan r.x.m r.x.d r.x.s heard).2.1,(D3 c.plan r.x.m r.x.d r.x.s heard).2.2,r.x.h++[Ff c.plan r.x.m r.x.d r.x.s heard]⟩):=by
        unfold Hid;rw[NP.step,if_pos H2.out,←HH.out]
       rw[H12.out] at K5;dsimp only at K5;rw[show((0:Nat):Int)=0 from rfl] at K5;obtain⟨V,hV⟩:∃V,V=D3 c.plan r.x.m r.x.d r.x.s heard:=⟨_,rfl⟩
       obtain⟨E,hE⟩:∃E,E=Ff c.plan r.x.m r.x.d r.x.s heard:=⟨_,rfl⟩
       rw[←hV,←hE] at K5 HSTP;clear hV hE hhl;have hne:=HRR.out.ne;go_upto_region 19 with(fail);go_cut [14,15] from 85 to 165 (fun s14 s15 wx=>∃b14 b15:Nat,s14=.pointer (some ⟨b14,0,none⟩)∧s15=.pointer (some ⟨b15,0,none⟩)∧Af wx b14 96 #[.int .i64 V.1,.int .i64 V.2.1,.int .i64 V.2.2]∧Af wx b15 146 #[.int .i64 E.slot,.int .i64 E.frm,.bool E.heard,.int .i64 E.value]∧wr.heap.size≤b14∧wr.heap.size≤b15∧Below wr.heap.size wr wx)
       case first=>
        refine wp_region_held_drew (S:=fun w'=>w'.cell? ⟨R.cb,0,none⟩=some (.slice R.pa c.plan.length R.pc)∧w'.cell? ⟨R.cb,4,none⟩=some (.slice (some ⟨R.nb,R.off,none⟩) n R.nc)∧w'.cell? ⟨R.nb,R.off+k*7+3,none⟩=some (.int .i64 r.x.m)∧w'.cell? ⟨R.nb,R.off+k*7+4,none⟩=some (.int .i64 r.x.d)∧w'.cell? ⟨R.nb,R.off+k*7+5,none⟩=some (.int .i64 r.x.s)) (by kernel_rfl) ⟨by simpa using c0,by simpa using c4,by simpa using n3,by simpa using n4,by simpa using n5⟩ (fun hS0=>?_);refine wpAnyH_take (i:=0) (v:=?_) rfl (by kernel_rfl) (by kernel_rfl) (by kernel_rfl) (fun _ _ _ h=>h) (Or.inl ⟨by rfl,?_⟩) (by assumption) ?_;rotate_left
        ·(intro w hSw;go_simp;try with_reducible rfl)
        try simp only[Act.put]
        try simp only[List.setIfInBounds_toArray]
        try simp only[List.set_cons_succ]
        try simp only[List.set_cons_zero]
        refine wpAnyH_take (i:=1) (v:=?_) rfl (by kernel_rfl) (by kernel_rfl) (by kernel_rfl) (fun _ _ _ h=>h) (Or.inl ⟨by rfl,?_⟩) (by assumption) ?_;rotate_left
        ·(intro w hSw;go_simp;try with_reducible rfl)
        try simp only[Act.put]
        try simp only[List.setIfInBounds_toArray]
        try simp only[List.set_cons_succ]
        try simp only[List.set_cons_zero]
        refine wpAnyH_take (i:=2) (v:=?_) rfl (by kernel_rfl) (by kernel_rfl) (by kernel_rfl) (fun _ _ _ h=>h) (Or.inl ⟨by rfl,?_⟩) (by assumption) ?_;rotate_left
        ·(intro w hSw;go_simp;try with_reducible rfl)
        try simp only[Act.put]
        try simp only[List.setIfInBounds_toArray]
        try simp only[List.set_cons_succ]
        try simp only[List.set_cons_zero]
        refine wpAnyH_take (i:=3) (v:=?_) rfl (by kernel_rfl) (by kernel_rfl) (by kernel_rfl) (fun _ _ _ h=>h) (Or.inl ⟨by rfl,?_⟩) (by assumption) ?_;rotate_left
        ·(intro w hSw;go_simp;try with_reducible rfl)
        try simp only[Act.put]
        try simp only[List.setIfInBounds_toArray]
        try simp only[List.set_cons_succ]
        try simp only[List.set_cons_zero]
        refine wpAnyH_take (i:=4) (v:=?_) rfl (by kernel_rfl) (by kernel_rfl) (by kernel_rfl) (fun _ _ _ h=>h) (Or.inl ⟨by rfl,?_⟩) (by assumption) ?_;rotate_left
        ·(intro w hSw;go_simp;try with_reducible rfl)
        try simp only[Act.put]
        try simp only[List.setIfInBounds_toArray]
        try simp only[List.set_cons_succ]
        try simp only[List.set_cons_zero]
        refine wpAnyH_take (i:=5) (v:=?_) rfl (by kernel_rfl) (by kernel_rfl) (by kernel_rfl) (fun _ _ _ h=>h) (Or.inl ⟨by rfl,?_⟩) (by assumption) ?_;rotate_left
        ·(intro w hSw;go_simp;try with_reducible rfl)
        try simp only[Act.put]
        try simp only[List.setIfInBounds_toArray]
        try simp only[List.set_cons_succ]
        try simp only[List.set_cons_zero]
        refine wpAnyH_take (i:=6) (v:=?_) rfl (by kernel_rfl) (by kernel_rfl) (by kernel_rfl) (fun _ _ _ h=>h) (Or.inl ⟨by rfl,?_⟩) (by assumption) ?_;rotate_left
        ·(intro w hSw;go_simp;try with_reducible rfl)
        try simp only[Act.put]
        try simp only[List.setIfInBounds_toArray]
        try simp only[List.set_cons_succ]
        try simp only[List.set_cons_zero]
        refine wpAnyH_take (i:=7) (v:=?_) rfl (by kernel_rfl) (by kernel_rfl) (by kernel_rfl) (fun _ _ _ h=>h) (Or.inl ⟨by rfl,?_⟩) (by assumption) ?_;rotate_left
        ·(intro w hSw;go_simp;try with_reducible rfl)
        try simp only[Act.put]
        try simp only[List.setIfInBounds_toArray]
        try simp only[List.set_cons_succ]
        try simp only[List.set_cons_zero]
        refine wpAnyH_take (i:=8) (v:=?_) rfl (by kernel_rfl) (by kernel_rfl) (by kernel_rfl) (fun _ _ _ h=>h) (Or.inl ⟨by rfl,?_⟩) (by assumption) ?_;rotate_left
        ·(intro w hSw;go_simp;try with_reducible rfl)
        try simp only[Act.put]
        try simp only[List.setIfInBounds_toArray]
        try simp only[List.set_cons_succ]
        try simp only[List.set_cons_zero]
        refine wpAnyH_take (i:=9) (v:=?_) rfl (by kernel_rfl) (by kernel_rfl) (by kernel_rfl) (fun _ _ _ h=>h) (Or.inl ⟨by rfl,?_⟩) (by assumption) ?_;rotate_left
        ·(intro w hSw;go_simp;try with_reducible rfl)
        try simp only[Act.put]
        try simp only[List.setIfInBounds_toArray]
        try simp only[List.set_cons_succ]
        try simp only[List.set_cons_zero]
        refine wpAnyH_take (i:=10) (v:=?_) rfl (by kernel_rfl) (by kernel_rfl) (by kernel_rfl) (fun _ _ _ h=>h) (Or.inl ⟨by rfl,?_⟩) (by assumption) ?_;rotate_left
        ·(intro w hSw;go_simp;try with_reducible rfl)
        try simp only[Act.put]
        try simp only[List.setIfInBounds_toArray]
        try simp only[List.set_cons_succ]
        try simp only[List.set_cons_zero]
        refine wpAnyH_take (i:=11) (v:=?_) rfl (by kernel_rfl) (by kernel_rfl) (by kernel_rfl) (fun _ _ _ h=>h) (Or.inl ⟨by rfl,?_⟩) (by assumption) ?_;rotate_left
        ·(intro w hSw;go_simp;try with_reducible rfl)
        try simp only[Act.put]
        try simp only[List.setIfInBounds_toArray]
        try simp only[List.set_cons_succ]
        try simp only[List.set_cons_zero]
        refine wpAnyH_take (i:=12) (v:=?_) rfl (by kernel_rfl) (by kernel_rfl) (by kernel_rfl) (fun _ _ _ h=>h) (Or.inl ⟨by rfl,?_⟩) (by assumption) ?_;rotate_left
        ·(intro w hSw;go_simp;try with_reducible rfl)
        try simp only[Act.put]
        try simp only[List.setIfInBounds_toArray]
        try simp only[List.set_cons_succ]
        try simp only[List.set_cons_zero]
        refine zG6 (pa:=R.pa) (pn:=c.plan.length) (pc:=R.pc) (vm:=r.x.m) (vd:=r.x.d) (vs:=r.x.s) (heard:=heard) (V:=V) (E:=E) ⟨by kernel_rfl,by kernel_rfl,by kernel_rfl,by kernel_rfl⟩ (by kernel_rfl) (by decide +kernel) (by kernel_rfl) (fun W hW=>K5.out W ((Ab zb 1).trans (hW.mono (by simp)))) (fun w' hb=>?_) (fun b14 b15 v16 w' hz14 hz15 hB14 hB15 hlow=>?_)
        ·exact⟨(hb.cell (p:=⟨R.cb,0,none⟩) (by simp;omega)).trans (by simpa using c0),(hb.cell (p:=⟨R.cb,4,none⟩) (by simp;omega)).trans (by simpa using c4),(hb.cell (p:=⟨R.nb,R.off+k*7+3,none⟩) (by simp;omega)).trans (by simpa using n3),(hb.cell (p:=⟨R.nb,R.off+k*7+4,none⟩) (by simp;omega)).trans (by simpa using n4),(hb.cell (p:=⟨R.nb,R.off+k*7+5,none⟩) (by simp;omega)).trans (by simpa using n5)⟩
        ·have HZ1:Hid (wr.heap.size≤b14):=by unfold Hid;simpa using hz14
         have HZ2:Hid (wr.heap.size≤b15):=by unfold Hid;simpa using hz15
         have HZB:=zh ((Ab zb 1).trans (hlow.mono (by simp)):Below wr.heap.size wr w');clear hz14 hz15 hlow;simp(maxSteps:=10000000) only[List.getElem_toArray,List.getElem_cons_succ,List.getElem_cons_zero,Act.put,List.setIfInBounds_toArray,List.set_cons_succ,List.set_cons_zero];go_wp2_with fail;go_meet
         case rel=>exact⟨b14,b15,rfl,rfl,hB14,hB15,HZ1.out,HZ2.out,HZB.out⟩
       case rest=>
        obtain⟨b14,b15,rfl,rfl,hB14,hB15,hz14,hz15,hbx⟩:=hcut;obtain⟨wq,rfl⟩:∃W:World,W=wc:=⟨_,rfl⟩
        have hRx:=HRR.out.below hbx;have hFx:=HF.out.trans (Fr.of hbx);have hrx:=HROW.out.below hbx;obtain⟨hrw,_,hcap,hmx⟩:=Ac.owned hrx;have hh200:r.x.h.length≤200:=by have:=HXN.out.on H2.out;omega
        obtain⟨ei,hi,hz0,hz1,hz2⟩:=info_parts M9;have hi':=zh hi;have hz0':=zh hz0;have hz1':=zh hz1;have hz2':=zh hz2;clear hi hz0 hz1 hz2;have HR1:=zh hRx;have HF1:=zh hFx;have HBA:=zh hB14;have HBE:=zh hB15;have HRW:=zh hrw;obtain⟨x0,x1,x2,x3,m4⟩:=hRx.cells;rw[HL'.out] at m4;have hm6:=(hRx.at k hkl).2.2.2.2.2.2;rw[HR.out] at hm6;have hsl:=hRx.lt;have hb14n:b14≠R.nb:=by omega
        clear c0 c1 c2 c3 c4 n0 n1 n2 n3 n4 n5 n6 nf hRx hFx hB14 hB15 hrw hrx x0 x1 x2 x3 hbx K5 hz14 hz15;go_wp2_with (at_builtin;refine Ag _ rfl (.tmp 137) (.tmp 145) 97 rfl wq.heap.size 146 ei _ 4 32 underlying97 hi'.out hz0'.out hz1'.out hz2'.out rfl (by decide) (.slice none 0 0) 0 [] rfl (World.ownsRow_nil _ _ _ _) r.la r.x.h.length r.lc (Av r.x.h) rfl ?_ ?_ ?_ ?_ ?_ ?_ ?_;(first|exact E8 _|(rw[E8];omega));exact HRW.out;exact P0 _;unfold maxLen;omega;omega;exact Nat.le_refl _;intro v1 w2 ho1 hg1 hq hmv;clear hq hmv;rw[List.nil_append,Nat.zero_add] at ho1;have hb2:Below wq.heap.size wq w2:=zb.grown hg1 zl (fun j e=>by simp[Value.ownBlock] at e);have hs2:=hb2.size);obtain⟨av,cv,rfl⟩:=Aj ho1;have hr2:=HR1.out.below hb2;have m4:=hr2.cells.2.2.2.2;rw[HL'.out] at m4;have nf2:=hr2.frozen;have hl2:=hr2.lt;have be:=HBE.out.kept hb2;have z0:=be.cell 0 rfl;have z1:=be.cell 1 rfl;have z2:=be.cell 2 rfl;have z3:=be.cell 3 rfl;have HO1:=zh ho1;have HB2:=zh hb2
        have HCK:Hid (∀w7:World,(w2.alloc (.cells #[.int .i64 E.slot,.int .i64 E.frm,.bool E.heard,.int .i64 E.value] 146)).drew.grownBy w7 (Value.slice av r.x.h.length cv).ownBlock→Below wq.heap.size wq w7):=fun w7 hg=>
         ((hb2.alloc hs2 _).drew).grown hg (by simp;omega) (fun j e=>(ho1.lt j e).1)
        clear hr2 hb2 ho1 hg1 be hm6;go_cut [17] from 85 to 165 (fun _ wx=>∃(gg cap2:Nat),An wx R (rs'.set k ⟨r.n,⟨r.x.st,r.x.val,r.x.m,r.x.d,r.x.s,r.x.h++[E]⟩,some ⟨gg,0,none⟩,cap2⟩) ⟨c.plan,c.time,c.now,c.asked,Ge (D9 (ns.take k) c.f (NP.step c.plan who lost c.sent)) r.n ⟨r.x.st,r.x.val,r.x.m,r.x.d,r.x.s,r.x.h++[E]⟩⟩∧Af wx b14 96 #[.int .i64 V.1,.int .i64 V.2.1,.int .i64 V.2.2]∧Fr R.own w wx)
        case first=>
         as_aux_lemma=>
          go_region_law (refine step_append_lies _ (by rfl) _ _ 97 (by rfl) wq.heap.size 146 ei _ 4 32 underlying97 hi'.out hz0'.out hz1'.out hz2'.out rfl (by omega) (.slice av r.x.h.length cv) r.x.h.length (Av r.x.h) (by rfl) ((HO1.out.alloc _).drew) ⟨w2.heap.size,0,none⟩ 1 1 E.cells (by rfl) (by rfl) (World.news_of_block (cs:=E.cells.toArray) (t:=146) (fr:=(0,0)) (heap_alloc_new w2 (.cells #[.int .i64 E.slot,.int .i64 E.frm,.bool E.heard,.int .i64 E.value] 146))) (Ent.one E) (by omega) (by unfold maxLen;omega) (by omega) (by simp;omega) (w2.heap.size+1) (by simp) ?_;intro gg cap2 w7 ho7 hg7 hat7 hlt7;have h7:=HCK.out w7 hg7;have R7:=An.below HR1.out h7;have q4:=(An.cells R7).2.2.2.2;rw[HL'.out] at q4;have qf:=An.frozen R7 (R.off+k*7+6);have ql:=An.lt R7;have q6:=(An.at R7 k hkl).2.2.2.2.2.2;rw[HR.out] at q6)
          all_goals
           have hH7:Cx w7 (.slice (some ⟨gg,0,none⟩) (r.x.h++[E]).length cap2) (r.x.h++[E]):=by
            rw[Cx,List.length_append,List.length_singleton,Hg];exact C0 ho7 (Nat.zero_le _)
           have P6:=R7.putj hkl 6 (.slice (some ⟨gg,0,none⟩) (r.x.h.length+1) cap2) ⟨r.n,⟨r.x.st,r.x.val,r.x.m,r.x.d,r.x.s,r.x.h++[E]⟩,some ⟨gg,0,none⟩,cap2⟩ (by rw[HR.out]) (by rw[HR.out];unfold RN.cells;simp) (by omega) hH7;have b8:=(P6.2.block b14 (HBA.out.kept h7).lt hb14n).trans (HBA.out.kept h7);have F8:=HF1.out.trans ((Fr.of h7).trans (P6.2.mono fun j e=>Or.inr e));have HP6:=zh P6.1;have HF8:=zh F8;have HB8:=zh b8;clear q4 qf ql q6 hat7 hlt7 hg7 hH7 ho7 R7 m4 nf2 z0 z1 z2 z3 P6 F8 b8;go_wp2_with fail;go_meet
           case rel=>exact⟨gg,cap2,HP6.out,HB8.out,HF8.out⟩
        case rest=>
         as_aux_lemma=>
          obtain⟨gg,cap2,hR8,b8,hF8⟩:=hcut;have hk8:k<(rs'.set k ⟨r.n,⟨r.x.st,r.x.val,r.x.m,r.x.d,r.x.s,r.x.h++[E]⟩,some ⟨gg,0,none⟩,cap2⟩).length:=by rw[List.length_set];exact hkl
          have PV:=hR8.putV hk8 ⟨r.n,⟨r.x.st,r.x.val,r.x.m,r.x.d,r.x.s,r.x.h++[E]⟩,some ⟨gg,0,none⟩,cap2⟩ (List.getElem_set_self hk8) V.1 V.2.1 V.2.2
          have R9:An (((wc.setCell ⟨R.nb,R.off+k*7+3,none⟩ (.int .i64 V.1)).setCell ⟨R.nb,R.off+k*7+3+1,none⟩ (.int .i64 V.2.1)).setCell ⟨R.nb,R.off+k*7+3+2,none⟩ (.int .i64 V.2.2)).drew R (rs'.set k ⟨r.n,⟨r.x.st,r.x.val,V.1,V.2.1,V.2.2,r.x.h++[E]⟩,some ⟨gg,0,none⟩,cap2⟩) ⟨c.plan,c.time,c.now,c.asked,D9 (ns.take (k+1)) c.f (NP.step c.plan who lost c.sent)⟩:=by
           have h1:=(An.again (f:=(D9 (ns.take k) c.f (NP.step c.plan who lost c.sent))) (r0:=⟨r.n,⟨r.x.st,r.x.val,r.x.m,r.x.d,r.x.s,r.x.h++[E]⟩,some ⟨gg,0,none⟩,cap2⟩) (r1:=⟨r.n,⟨r.x.st,r.x.val,V.1,V.2.1,V.2.2,r.x.h++[E]⟩,some ⟨gg,0,none⟩,cap2⟩) PV.1 rfl).drewN 1;rw[L4 (k:=NP.step c.plan who lost c.sent) (y:=⟨r.x.st,r.x.val,V.1,V.2.1,V.2.2,r.x.h++[E]⟩) HFK.out (by rw[HSTP.out,H2.out])] at h1;rw[HTK.out];exact h1
          have HR9:=zh R9;have HF9:=zh ((hF8.trans (PV.2.mono fun j e=>Or.inr e)).drewN 1);have HN9:=zh ((Mk (r':=⟨r.n,⟨r.x.st,r.x.val,V.1,V.2.1,V.2.2,r.x.h++[E]⟩,some ⟨gg,0,none⟩,cap2⟩) hkl (by rw[HR.out])).trans HN'.out);have d4:=hR8.cells.2.2.2.2;rw[List.length_set,HL'.out] at d4;obtain⟨v0,v1,v2,v3,v4,v5,v6⟩:=hR8.at k hk8;rw[List.getElem_set_self] at v3 v4 v5;have x0:=b8.cell 0 rfl;have x1:=b8.cell 1 rfl;have x2:=b8.cell 2 rfl;have nf8:=hR8.frozen;have hl8:=hR8.lt;clear R9 PV v0 v1 v2 v6 b8 hF8 hR8 m4 nf2 z0 z1 z2 z3;go_wp2;go_region;go_wp2;go_roundw
          case rel=>exact⟨k+1,_,by omega,by go_num,by rw[List.length_set];exact HL'.out,HN9.out,HR9.out,HF9.out⟩
          case measure=>simp[intOf];omega
    ·have hd:decide (r.x.st<2)=true:=by simp;omega
     have HE:Hid (An wr R rs' ⟨c.plan,c.time,c.now,c.asked,D9 (ns.take (k+1)) c.f (NP.step c.plan who lost c.sent)⟩):=by
      unfold Hid;rw[HTK.out,←Mm (k:=NP.step c.plan who lost c.sent) HFK.out (zEc h2)];exact HRR.out
     clear h2 hs3;go_wp2;go_roundw
     case rel=>exact⟨k+1,rs',by omega,by go_num,HL'.out,HN'.out,HE.out,HF.out⟩
     case measure=>simp[intOf];omega
   ·obtain rfl:k=n:=by omega
    have hR2:An wr R rs' ⟨c.plan,c.time,c.now,c.asked,c.f1 lost⟩:=by
     have e:D9 (ns.take k) c.f (NP.step c.plan who lost c.sent)=c.f1 lost:=by
      show _=fun i=>(c.f i).map (NP.step c.plan (Am c.plan c.time) lost c.sent i)
      rw[List.take_of_length_le (by rw[HNL.out];omega),HWHO.out];exact On HDM.out
     rw[←e];exact hR
    have HG:Hid (∃(g:Int→NP→NP) (Y:NP),(∀i x,g i x=if c.sent≠[]∧x.st=1∧i∉lost then⟨2,x.val,Y.m,Y.d,Y.s,Y.h⟩ else x)∧c.f1 lost who=some Y∧(c.sent≠[]→Y.st=2)∧c.f2 lost=fun i=>(c.f1 lost i).map (g i)):=by
     rw[←HWHO.out]
     rcases HI.out.sent with⟨h1,h2,_⟩|⟨h1,_⟩
     ·obtain⟨Y,y1,y2,y3⟩:=CP.f2_eq (lost:=lost) h1
      refine⟨NP.join Y lost,Y,fun i x=>?_,y1,fun _=>y2,funext y3⟩;unfold NP.join
      by_cases hc:x.st=1∧i∉lost
      ·rw[if_pos hc,if_pos ⟨h2,hc⟩]
      ·rw[if_neg hc,if_neg (fun h=>hc h.2)]
     ·have h2:(Ak c.sent).1≠0:=by rw[h1];exact Uo
      have hy:∃Y,c.f1 lost (Am c.plan c.time)=some Y:=by rw[CP.f1,HZ.out];exact⟨_,rfl⟩
      obtain⟨Y,hy⟩:=hy;refine⟨fun _ x=>x,Y,fun i x=>by rw[if_neg (fun h=>h.1 h1)],hy,fun h=>absurd h1 h,?_⟩;rw[CP.f2_no h2]
      funext i
      cases c.f1 lost i<;>rfl
    obtain⟨g,Y,hg,hY,hY2,hf2⟩:=HG.out;have HGS:=zh hg;have HY:=zh hY;have HY2:=zh hY2;have HF2:=zh hf2;have hR3:An wr R rs' ⟨c.plan,c.time,c.now,c.asked,D9 (ns.take 0) (c.f1 lost) g⟩:=by rw[List.take_zero,Oo];exact hR2
    have HRS:=zh hn';have HRL:=zh hl';have HFO:=zh hF;have HR3:=zh hR3
    have HDM1:Hid (∀i x,c.f1 lost i=some x→i∈ns):=fun i x hf=>by
     rw[CP.f1] at hf
     cases hc:c.f i with
     | none=>rw[hc] at hf;cases hf
     | some x=>exact HDM.out i x hc
    obtain⟨wo,hwo⟩:∃wo:World,wo=wr:=⟨_,rfl⟩
    subst hwo;clear HG hg hY hY2 hf2 hR hR2 hR3 hn' hl' hF hlt hk;go_wp2;go_loopw [18] (fun i wr=>∃(j:Nat) (rs':List RN),j≤k∧i=.int .i64 j∧rs'.length=k∧rs'.map RN.n=ns∧An wr R rs' ⟨c.plan,c.time,c.now,c.asked,D9 (ns.take j) (c.f1 lost) g⟩∧Fr R.own w wr) (fun i _=>k-(intOf i).toNat)
    case atStart=>exact⟨0,_,Nat.zero_le _,rfl,HRL.out,HRS.out,HR3.out,HFO.out⟩
    case round=>
     clear HR3 HFO;obtain⟨j,rs2,hj,rfl,hl',hn',hR,hF⟩:=hrel;obtain⟨c0,c1,c2,c3,c4⟩:=hR.cells;rw[hl'] at c4;obtain⟨hlb,hlnb⟩:=hR.lt
     by_cases hlt:j<k
     ·obtain⟨hfk,hrow,hnt,htk⟩:=hR.mid hn' HRI.out (by omega)
      obtain⟨n0,n1,n2,n3,n4,n5,n6⟩:=hR.at j (by omega);have nf:=hR.frozen;have hi0:(0:Int)≤(j:Int):=by omega
      have hi1:(j:Int)<(k:Int):=by omega
      have hjl:j<rs2.length:=by omega
      have hkl:kw<rs2.length:=by omega
      have hkn:rs2[kw].n=who:=by
       have e1:ns[kw]=rs2[kw].n:=by subst hn';simp
       rw[←e1];exact HKW.out
      have hYk:rs2[kw].x=Y:=hR.who hkl (by rw[hkn];exact HY.out) (by
       rw[HGS.out]
       by_cases hs:c.sent=[]
       ·rw[if_neg (fun h=>h.1 hs)]
       ·rw[if_neg (fun h=>by have:=HY2.out hs;omega)])
      have hgj:=HGS.out rs2[j].n rs2[j].x;have HRR:=zh hR;have HF:=zh hF;have HTK:=zh htk;have HFK:=zh hfk;have HN':=zh hn';have HL':=zh hl';have HROW:=zh hrow;have HYK:=zh hYk;have HGJ:=zh hgj;generalize hr:rs2[j]=r at *;have HR:=zh hr;have hlr2:Ac wr la (Aa lost):=X8 HLR.out HF.out HLF.out;have KI:=zh (Ia r.n la ln lc lost wr HLL.out hlr2 (by omega));clear hR hF htk hfk hn' hl' hr hrow hYk hgj hnt hlr2;obtain⟨BI,hBI⟩:∃B,B=decide (r.n∈lost):=⟨_,rfl⟩
      rw[←hBI] at KI;have HBI:=zh hBI;obtain⟨BJ,hBJ⟩:∃B,B=decide (c.sent≠[]∧r.x.st=1∧r.n∉lost):=⟨_,rfl⟩
      have HBJ:=zh hBJ;clear hBI hBJ;go_wp2_with fail;refine KI.out.mono ?_;rintro e w'⟨rfl,rfl⟩;clear KI;go_upto_region 28 with(fail);go_cut [201] from 167 to 238 (fun s201 wx=>s201=.bool BJ∧wr=wx)
      case first=>
       as_aux_lemma=>
        by_cases hs:c.sent=[]
        ·have g1:(c.sent==[])=true:=by rw[hs];rfl
         have HB2:Hid (BJ=false):=by unfold Hid;rw[HBJ.out];exact decide_eq_false (fun h=>h.1 hs)
         clear hs;go_wp2_with fail;go_meet
         case rel=>exact⟨by rw[HB2.out],rfl⟩
        ·have g1:(c.sent==[])=false:=by simpa using hs
         by_cases h1:r.x.st=1
         ·have g2:(r.x.st==1)=true:=by simpa using h1
          have HB2:Hid (BJ = !BI):=by
           unfold Hid;rw[HBJ.out,HBI.out]
           by_cases hm:r.n∈lost
           ·rw[decide_eq_true hm,decide_eq_false (fun h=>h.2.2 hm)];rfl
           ·rw[decide_eq_false hm,decide_eq_true ⟨hs,h1,hm⟩];rfl
          clear hs h1;go_wp2_with fail;go_meet
          case rel=>exact⟨by rw[HB2.out],rfl⟩
         ·have g2:(r.x.st==1)=false:=by simpa using h1
          have HB2:Hid (BJ=false):=by unfold Hid;rw[HBJ.out];exact decide_eq_false (fun h=>h1 h.2.1)
          clear hs h1;go_wp2_with fail;go_meet
          case rel=>exact⟨by rw[HB2.out],rfl⟩
      case rest=>
       obtain⟨rfl,rfl⟩:=hcut
       cases BJ
       ·have HE:Hid (An wr R rs2 ⟨c.plan,c.time,c.now,c.asked,D9 (ns.take (j+1)) (c.f1 lost) g⟩):=by
         unfold Hid;rw[HTK.out,←Mm (k:=g) HFK.out (by rw[HGJ.out,if_neg (of_decide_eq_false HBJ.out.symm)])];exact HRR.out
        go_wp2;go_roundw
        case rel=>exact⟨j+1,rs2,by omega,by go_num,HL'.out,HN'.out,HE.out,HF.out⟩
        case measure=>simp[intOf];omega
       ·as_aux_lemma=>
        have hJ:=of_decide_eq_true HBJ.out.symm;have hgx:g r.n r.x=⟨2,r.x.val,Y.m,Y.d,Y.s,Y.h⟩:=by rw[HGJ.out,if_pos hJ]
        have hjk:j≠kw:=fun e=>by
         have h1:rs2[kw]=r:=by subst e;exact HR.out
         have h2:=HY2.out hJ.1;rw[←HYK.out,h1] at h2;have:=hJ.2.1;omega
        have HGX:=zh hgx;obtain⟨y0,y1,y2,y3,y4,y5,y6⟩:=HRR.out.at kw hkl;rw[HYK.out] at y3 y4 y5 y6;have hyr:=(HRR.out.each kw hkl).2;rw[HYK.out] at hyr;clear hgx hJ;have P1:=HRR.out.putj hjl 1 (.int .i64 2) ⟨r.n,⟨2,r.x.val,r.x.m,r.x.d,r.x.s,r.x.h⟩,r.la,r.lc⟩ (by rw[HR.out]) (by rw[HR.out];rfl) (by omega) HROW.out;have hj3:j<(rs2.set j ⟨r.n,⟨2,r.x.val,r.x.m,r.x.d,r.x.s,r.x.h⟩,r.la,r.lc⟩).length:=by rw[List.length_set];exact hjl
        have hk3:kw<(rs2.set j ⟨r.n,⟨2,r.x.val,r.x.m,r.x.d,r.x.s,r.x.h⟩,r.la,r.lc⟩).length:=by rw[List.length_set];exact hkl
        obtain⟨W1,hW1⟩:∃W,W=wr.setCell ⟨R.nb,R.off+j*7+1,none⟩ (.int .i64 2):=⟨_,rfl⟩
        rw[←hW1] at P1;have HP1:=zh P1;have d4:=P1.1.cells.2.2.2.2;rw[List.length_set,HL'.out] at d4;obtain⟨w0,w1,w2,w3,w4,w5,w6⟩:=P1.1.at kw hk3;rw[List.getElem_set_ne hjk,HYK.out] at w3 w4 w5 w6;obtain⟨v0,v1,v2,v3,v4,v5,v6⟩:=P1.1.at j hj3;rw[List.getElem_set_self] at v3 v4 v5 v6;have nf1:=P1.1.frozen;have hl1:=P1.1.lt;clear P1 w0 w1 w2 v0 v1 v2;go_upto_region 30 with(fail);rw[←hW1];clear hW1 c0 c1 c2 c3 c4 n0 n1 n2 n3 n4 n5 n6 nf y0 y1 y2 y3 y4 y5 y6;have PV:=HP1.out.1.putV hj3 ⟨r.n,⟨2,r.x.val,r.x.m,r.x.d,r.x.s,r.x.h⟩,r.la,r.lc⟩ (List.getElem_set_self hj3) Y.m Y.d Y.s;have hj4:j<(rs2.set j ⟨r.n,⟨2,r.x.val,Y.m,Y.d,Y.s,r.x.h⟩,r.la,r.lc⟩).length:=by rw[List.length_set];exact hjl
        have hk4:kw<(rs2.set j ⟨r.n,⟨2,r.x.val,Y.m,Y.d,Y.s,r.x.h⟩,r.la,r.lc⟩).length:=by rw[List.length_set];exact hkl
        obtain⟨W2,hW2⟩:∃W,W=(((W1.setCell ⟨R.nb,R.off+j*7+3,none⟩ (.int .i64 Y.m)).setCell ⟨R.nb,R.off+j*7+3+1,none⟩ (.int .i64 Y.d)).setCell ⟨R.nb,R.off+j*7+3+2,none⟩ (.int .i64 Y.s)).drew:=⟨_,rfl⟩
        have R2:An W2 R (rs2.set j ⟨r.n,⟨2,r.x.val,Y.m,Y.d,Y.s,r.x.h⟩,r.la,r.lc⟩) ⟨c.plan,c.time,c.now,c.asked,Ge (D9 (ns.take j) (c.f1 lost) g) r.n ⟨2,r.x.val,Y.m,Y.d,Y.s,r.x.h⟩⟩:=by
         rw[hW2];exact(An.again (f:=(D9 (ns.take j) (c.f1 lost) g)) (r0:=⟨r.n,⟨2,r.x.val,r.x.m,r.x.d,r.x.s,r.x.h⟩,r.la,r.lc⟩) (r1:=⟨r.n,⟨2,r.x.val,Y.m,Y.d,Y.s,r.x.h⟩,r.la,r.lc⟩) PV.1 rfl).drewN 1
        have F2:Fr R.own w W2:=by
         rw[hW2];exact(HF.out.trans ((HP1.out.2.mono fun j e=>Or.inr e).trans (PV.2.mono fun j e=>Or.inr e))).drewN 1
        have HHR:Hid (Cx W2 (.slice rs2[kw].la Y.h.length rs2[kw].lc) Y.h):=by
         have h1:=(R2.each kw hk4).2;rw[List.getElem_set_ne hjk,HYK.out] at h1;exact h1
        have P3:=R2.putj hj4 6 (.slice rs2[kw].la Y.h.length rs2[kw].lc) ⟨r.n,⟨2,r.x.val,Y.m,Y.d,Y.s,Y.h⟩,rs2[kw].la,rs2[kw].lc⟩ (by rw[List.getElem_set_self]) (by rw[List.getElem_set_self];rfl) (by omega) HHR.out
        have HQ:Hid (An (W2.setCell ⟨R.nb,R.off+j*7+6,none⟩ (.slice rs2[kw].la Y.h.length rs2[kw].lc)).drew R (rs2.set j ⟨r.n,⟨2,r.x.val,Y.m,Y.d,Y.s,Y.h⟩,rs2[kw].la,rs2[kw].lc⟩) ⟨c.plan,c.time,c.now,c.asked,D9 (ns.take (j+1)) (c.f1 lost) g⟩):=by
         unfold Hid;have h1:=(An.again (f:=(D9 (ns.take j) (c.f1 lost) g)) (r0:=⟨r.n,⟨2,r.x.val,Y.m,Y.d,Y.s,r.x.h⟩,r.la,r.lc⟩) (r1:=⟨r.n,⟨2,r.x.val,Y.m,Y.d,Y.s,Y.h⟩,rs2[kw].la,rs2[kw].lc⟩) P3.1 rfl).drewN 1;rw[L4 (k:=g) HFK.out HGX.out] at h1;rw[HTK.out];exact h1
        have HFQ:=zh ((F2.trans (P3.2.mono fun j e=>Or.inr e)).drewN 1);have HNQ:=zh ((Mk (r':=⟨r.n,⟨2,r.x.val,Y.m,Y.d,Y.s,Y.h⟩,rs2[kw].la,rs2[kw].lc⟩) hjl (by rw[HR.out])).trans HN'.out);have d5:=R2.cells.2.2.2.2;rw[List.length_set,HL'.out] at d5;obtain⟨_,_,_,_,_,_,z6⟩:=R2.at kw hk4;rw[List.getElem_set_ne hjk,HYK.out] at z6;obtain⟨_,_,_,_,_,_,t6⟩:=R2.at j hj4;rw[List.getElem_set_self] at t6;have nf2:=R2.frozen;have hl2:=R2.lt;clear PV R2 F2 P3;go_region;go_upto_region 31 with(fail);rw[←hW2];clear hW2 d4 w3 w4 w5 w6 v3 v4 v5 v6 nf1 hl1;go_region;go_wp2;go_roundw
        case rel=>exact⟨j+1,_,by omega,by go_num,by rw[List.length_set];exact HL'.out,HNQ.out,HQ.out,HFQ.out⟩
        case measure=>simp[intOf];omega
     ·obtain rfl:j=k:=by omega
      have hR5:An wr R rs2 ⟨c.plan,c.time,c.now,c.asked,c.f2 lost⟩:=by
       rw[HF2.out]
       have e:D9 (ns.take j) (c.f1 lost) g=fun i=>(c.f1 lost i).map (g i):=by
        rw[List.take_of_length_le (by rw[HNL.out];omega)];exact On HDM1.out
       rw[←e];exact hR
      have nfc:wr.frozen? ⟨R.cb,1,none⟩=false:=hR5.blk.frozen 1;have hfc:Fr (fun i=>i=R.cb) wr (wr.setCell ⟨R.cb,1,none⟩ (.int .i64 ((c.time:Int)+1))):=(Fr.refl (fun j=>j=R.cb) wr).setCell (p:=⟨R.cb,1,none⟩) (Or.inl rfl) _
      have hR6:An (wr.setCell ⟨R.cb,1,none⟩ (.int .i64 ((c.time:Int)+1))) R rs2 ⟨c.plan,c.time+1,c.now,c.asked,c.f2 lost⟩:=by
       refine hR5.blkput hfc ?_;have hb:=hR5.blk.set 1 (.int .i64 ((c.time:Int)+1));simpa using hb
      obtain⟨W1,hW1⟩:∃W,W=wr.setCell ⟨R.cb,1,none⟩ (.int .i64 ((c.time:Int)+1)):=⟨_,rfl⟩
      rw[←hW1] at hR6 hfc;have hF6:=hF.trans (hfc.mono fun j e=>Or.inl e);obtain⟨d0,d1,d2,d3,d4⟩:=hR6.cells;have hf2:=HI.out.f2 ht lost;have hEnd:=zh (fun k:Nat=>zAk R rs2 ⟨c.plan,c.time+1,c.now,c.asked,c.f2 lost⟩ (W1.drewN k) (hR6.drewN k) HI.out.plan (fun i x hf h2=>((hf2.2 i x hf).on h2).2.2.2.2.2) (fun i x hf=>(hf2.2 i x hf).st));have HR6:=zh hR6;have HF6:=zh hF6;have hnz:((c.plan.length:Int)==0)=false:=beq_eq_false_iff_ne.2 (by omega)
      have HTM:Hid (((((c.time:Int)+1)%(c.plan.length:Int))==0)=decide ((c.time+1)%c.plan.length=0)):=by
       unfold Hid;rw[show(c.time:Int)+1=((c.time+1:Nat):Int) by push_cast;rfl,←Int.natCast_emod]
       by_cases h:(c.time+1)%c.plan.length=0
       ·rw[h];rfl
       ·rw[decide_eq_false h];exact beq_eq_false_iff_ne.2 (by omega)
      have hlcb:=hR6.lt.1;clear hR5 hR hF HDM1 HF2 hR6 hF6 hf2 hfc hn' hl';go_upto_region 33 with(fail);rw[←hW1];clear hW1 c0 c1 c2 c3 c4 nfc
      have HTN:Hid (((((c.time+1)%c.plan.length:Nat):Int)==0)=decide ((c.time+1)%c.plan.length=0)):=by
       unfold Hid
       by_cases h:(c.time+1)%c.plan.length=0
       ·rw[h];rfl
       ·rw[decide_eq_false h];exact beq_eq_false_iff_ne.2 (by omega)
      have HTO:Hid ((((c.time+1:Nat):Int)%(c.plan.length:Int)==0)=decide ((c.time+1)%c.plan.length=0)):=by
       unfold Hid;rw[←Int.natCast_emod];exact HTN.out
      have HNOW:=HI.out.asked;have hpl0:0<c.plan.length:=by omega
      obtain⟨t1,ht1⟩:∃t1,t1=c.time+1:=⟨_,rfl⟩
      have HT1:=zh ht1;have ht2:(t1:Int)≤200:=by omega
      rw[←ht1] at d1 HTN HTO;clear ht1 HTM;obtain⟨B,hB⟩:∃B,B=decide (t1%c.plan.length=0):=⟨_,rfl⟩
      rw[←hB] at HTN HTO;have q1:=HTN.out;have q2:=HTO.out;have HB:=zh hB;clear hB;have hmm:t1%c.plan.length<c.plan.length:=Nat.mod_lt _ hpl0
      cases B
      ·have HS:Hid (c.slot (Da c.plan.length) lost=⟨c.plan,c.time+1,c.now,c.asked,c.f2 lost⟩):=by
        unfold Hid CP.slot;rw[if_neg (by have:=HB.out;rw[HT1.out] at this;exact of_decide_eq_false this.symm)]
       go_wp2;go_quiet (fail);go_wp2;go_ret2;rw[HS.out];exact⟨rfl,⟨rs2,HR6.out.drewN _⟩,HF6.out.drewN _⟩
      ·have HS:Hid (c.slot (Da c.plan.length) lost=⟨c.plan,c.time+1,c.turned,if 0≤c.asked then -1 else c.asked,fun i=>(c.f2 lost i).map (NP.endR (Da c.plan.length) c.turned)⟩):=by
        unfold Hid CP.slot;rw[if_pos (by have:=HB.out;rw[HT1.out] at this;exact of_decide_eq_true this.symm)]
        have e:(if 0≤c.asked then(-1:Int) else c.asked)=-1:=by
         rcases HNOW with h|h
         ·rw[h];rfl
         ·rw[if_pos h.1]
        rw[e]
       go_wp2;go_quiet (fail);go_wp2_with fail;refine(hEnd.out nq).mono ?_;rintro e w6⟨rfl,⟨rs6,hR7⟩,hF7⟩;have HR7:=zh hR7;have HF7:=zh ((HF6.out.drewN nq).trans hF7);clear hR7 hF7;go_wp2;go_ret2;rw[HS.out];exact⟨rfl,⟨rs6,HR7.out⟩,HF7.out⟩
theorem zDp(R:RL)(rs:List RN)(c:CP)(la:Option Addr)(ln lc:Nat)(lost:List Int)(w:World)(h:An w R rs c)(hI:Ce c)(hll:lost.length=ln)(hlr:Ac w la (Aa lost))(hlc:ln≤1000)(hlf:lost≠[]→∀b off,la=some ⟨b,off,none⟩→b≠R.cb∧b≠R.nb) :
 Calls prog 93 #[.pointer (some ⟨R.cb,0,none⟩),.slice la ln lc] w fun e w'=>e=.returned (.tuple #[.string ⟨(if c.time<200 then c.sent else[]).toArray⟩,.int .i64 ((if c.time<200 then(c.slot (Da c.plan.length) lost,(0:Nat)) else(c,7)).2:Nat)])∧(∃rs',An w' R rs' (if c.time<200 then(c.slot (Da c.plan.length) lost,(0:Nat)) else(c,7)).1)∧Fr R.own w w':=by
 by_cases ht:c.time<200
 ·refine(zG3 R rs c la ln lc lost w h hI ht hll hlr hlc hlf).mono ?_
  rintro e w'⟨rfl,h1,h2⟩;rw[if_pos ht,if_pos ht];exact⟨rfl,h1,h2⟩
 ·refine(zAo R rs c la ln lc w h (by omega)).mono ?_
  rintro e w'⟨rfl,rfl⟩;rw[if_neg ht,if_neg ht];exact⟨rfl,⟨rs,h⟩,Fr.refl _ _⟩
end Go.Proofs.YtppfkokfnoeopaaGreatDoor
