/- A part of a proof. -/
import Derived.Handy
import Derived.Test.YtppfkokfnoeopaaGreatDoorSLaid
import Derived.Test.YtppfkokfnoeopaaGreatDoorSRefY
import Derived.Test.YtppfkokfnoeopaaGreatDoorSScriptPlay
set_option maxRecDepth 400000
set_option maxHeartbeats 6400000
namespace Go.Proofs.YtppfkokfnoeopaaGreatDoor
open Go.RowKit Go.Maps Go.Proofs.Tryz
theorem zFj{line:List UInt8}{a b c:UInt8}{x:List UInt8}{r:List (List UInt8)}(h:Az 32 line=[a,b,c]::x::r):Az 32 (line.drop 4)=x::r:=by
 have h1:=Es 32 line;have h2:=Jy 32 line;rw[h] at h1 h2;rw[Er 32 _ (by simp)] at h1;rw[←h1]
 show Az 32 (Cv 32 (x::r))=x::r
 exact Kj 32 _ (by simp) (fun w hw=>h2 w (List.mem_cons_of_mem _ hw))
theorem Ya{l:List Int}(h:∀x∈l,-10000000<x∧x<10000000)(k:Int) : -9223372036854775807≤(E2 l k).1∧(E2 l k).1≤9223372036854775807:=by
 unfold E2
 split
 ·dsimp only
  unfold Sa;have hs:∀x∈Bt l,-10000000<x∧x<10000000:=fun x hx=>h x ((Im l).mem_iff.1 hx)
  have h1:=Kl hs k.toNat;have h2:=Kl hs (l.length-1-k.toNat);omega
 ·exact⟨by dsimp only;decide,by dsimp only;decide⟩
def zHv(base:Nat)(Z:RYL)(r:YP×List UInt8×Nat)(w:World)(e:Ending)(w':World):Prop:=
 ∃(Z':RYL) (t:List UInt8),Z'.T=Z.T∧e=.returned (.tuple #[.pointer (some ⟨Z'.yb,0,none⟩),.string ⟨t.toArray⟩,.int .i64 (r.2.2:Nat)])∧(r.2.2=0→t=r.2.1)∧Bk w' base Z' r.1∧Fr (fun k=>k=Z.T) w w'
theorem Di{base:Nat}{Z:RYL}{y:YP}{w w':World}{t:List UInt8}{k:Nat}{e:Ending}(h:Bk w base Z y)(hb:Below w.heap.size w w')(he:e=.returned (.tuple #[.pointer (some ⟨Z.yb,0,none⟩),.string ⟨t.toArray⟩,.int .i64 (k:Nat)])):zHv base Z (y,t,k) w e w':=
 ⟨Z,t,rfl,he,fun _=>rfl,h.below hb,Fr.of hb⟩
theorem Zf{k:Nat}{y:YP}{dn:List (List UInt8)}(h:Fg k y dn):(⟨(Bp.linesF 0 dn).1,⟨y.d.b.take (dn.flatMap A7).length,false,-1⟩⟩:YP)=(y.againP []).1:=by
 rw[h.run,h.take,YP.againP,if_pos rfl,Pj h.parse]
theorem zGw(base:Nat)(Z:RYL)(y:YP)(line:List UInt8)(k:Nat)(dn:List (List UInt8))(w:World)(h:Bk w base Z y)(hI:Fg k y dn)(hk:k≤100)(hl:line.length≤150) :
 Calls prog 67 #[.pointer (some ⟨Z.yb,0,none⟩),.string ⟨line.toArray⟩] w (zHv base Z (y.play line) w):=by
 have KS:=zh (Fv line 32 w (by omega));rw[show((32:UInt8).toNat:Int)=32 from rfl] at KS;have KDO:=zh (fun(W:World) (hW:Bk W base Z y)=>zIy base Z y line W hW (by omega) (by have:=hI.size;omega) (by have:=hI.cut;omega));have HP:Hid (y.play line=if (Az 32 line).getD 0 []=Tq then y.cutP ((Az 32 line).drop 1) else if (Az 32 line).getD 0 []=Kf then y.againP ((Az 32 line).drop 1) else if (Az 32 line).getD 0 []=Tu then y.midP ((Az 32 line).drop 1) else if (Az 32 line).getD 0 []=Og then y.nextP ((Az 32 line).drop 1) else if (Az 32 line).getD 0 []=Ox then y.textP ((Az 32 line).drop 1) else y.doF line):=rfl;have hlen:(Az 32 line).length≤151:=Nat.le_trans (Ch 32 line) (by omega);have hpc:∀x∈Az 32 line,x.length≤150:=fun x hx=>Nat.le_trans (Cz 32 line x hx) hl
 have HCR:=zh (fun(a b c:UInt8) (x:List UInt8) (r:List (List UInt8)) (h:Az 32 line=[a,b,c]::x::r)=>zFj h);obtain⟨w0,r,hwr⟩:=List.exists_cons_of_ne_nil (F7 32 line);rw[hwr] at KS HP hlen hpc;have HWR:=zh hwr;rw[show(w0::r).getD 0 []=w0 from rfl,show(w0::r).drop 1=r from rfl] at HP;have HY:=zh h;have HI:=zh hI;have HPC:=zh hpc;clear hwr hpc h hI;go_enter func67,ntmps67;go_wp2_with fail;refine KS.out.mono ?_;rintro e w1⟨ao,n,co,rfl,hr1,hn1,_,hb1⟩;obtain⟨b,off,rfl,hbl1,hcc⟩:=hr1.at (by simp[Ad]);have q0:w1.cell? ⟨b,off,none⟩=some (.string ⟨w0.toArray⟩):=hcc 0 _ rfl;have HC:=zh (fun(i:Nat) (x:List UInt8) (hx:(w0::r)[i]?=some x)=>show w1.cell? ⟨b,off+i,none⟩=some (.string ⟨x.toArray⟩) from hcc i _ (by rw[Ad,List.getElem?_map,hx];rfl));have hn0:0<n:=by rw[←hn1];simp
 have HN:=zh (show r.length+1=n by rw[←hn1];rfl);rw[hn1] at hlen;have hi0:(0:Int)<(n:Int):=by omega
 have hY1:=HY.out.below hb1;have HY1:=zh hY1;have HB1:=zh hb1;have y1:=hY1.blk.cell 1 rfl;clear KS hr1 hcc hn1 hY1 hb1
 by_cases ha:w0=Kf
 ·subst ha
  have HP2:Hid (y.play line=y.againP r):=by unfold Hid;rw[HP.out,if_neg (by decide),if_pos rfl]
  clear HP HCR KDO
  by_cases h1:n=1
  ·subst h1
   obtain rfl:r=[]:=List.eq_nil_of_length_eq_zero (by have:=HN.out;omega);have KO:=zh (zDm base Z.T y.d dn w1 HY1.out.ref.size HY1.out.tape HI.out.parse (by have:=HI.out.size;omega) (by have:=HI.out.many;omega));unfold zJc at KO;have hrun:(Bp.linesF 0 dn).2.1=0:=by rw[HI.out.run]
   have HAY:=zh (Zf HI.out);have HA2:Hid ((y.againP []).2=(okB,0)):=by unfold Hid;rw[YP.againP,if_pos rfl]
   have HRUN:=zh hrun;clear hrun;simp only[Kf] at q0 ⊢;go_wp2_with fail;refine KO.out.mono ?_;rintro e w2 (⟨_,Z2,hT2,rfl,hZ2,hF2⟩|⟨hz,_,_⟩);rotate_left
   ·exact absurd HRUN.out hz
   have hal:Below w2.heap.size w2 (w2.alloc (.cells #[.int .i64 0,.int .i64 (-1)] 55)):=zb.alloc zl _;have HZ2:=zh (hZ2.below hal);have HF2:=zh ((Fr.trans (Fr.of HB1.out) hF2).off hal);have HT2:=zh hT2;clear hal hZ2 hF2 hT2 KO y1;go_wp2;go_ret3;rw[HP2.out];unfold zHv;rw[HA2.out,←HAY.out];exact⟨Z2,okB,HT2.out,rfl,fun _=>rfl,HZ2.out,HF2.out⟩
  ·have hn2:1<n:=by omega
   have hr0:r≠[]:=fun e=>by have:=HN.out;rw[e] at this;simp at this;omega
   have HA2:Hid (y.againP r=(y,[],1)):=by unfold Hid;rw[YP.againP,if_neg hr0]
   have e1:decide ((1:Int)<(n:Int))=true:=decide_eq_true (by omega);have e2:decide (1<n)=true:=decide_eq_true hn2;clear hr0 h1 hn2;simp only[Kf] at q0 ⊢;go_wp2;go_ret3;rw[HP2.out,HA2.out];exact Di HY.out HB1.out rfl
 by_cases ht:w0=Ox
 ·subst ht
  have HP2:Hid (y.play line=y.textP r):=by unfold Hid;rw[HP.out,if_neg (by decide),if_neg (by decide),if_neg (by decide),if_neg (by decide),if_pos rfl]
  clear HP HCR KDO ha
  by_cases h1:n=1
  ·subst h1
   obtain rfl:r=[]:=List.eq_nil_of_length_eq_zero (by have:=HN.out;omega);have KX:=zh (zDr base Z y w1 HY1.out)
   have htl:(y.c.textY).length≤100000:=by
    have e:y.c.textY=y.c.textK (Bq y.c.plan).length:=by unfold CP.textK CP.textY;rw[List.take_length]
    have h2:=Ka HY1.out.ref.inv _ zl;have h3:=J3 y.c.plan;rw[e];omega
   have KW:=zh (fun W:World=>U6 y.c.textY 10 59 W (by omega));have HA2:Hid (y.textP []=(y,Lib.replaceAll y.c.textY [10] [59],0)):=by unfold Hid;rw[YP.textP,if_pos rfl]
   clear htl;simp only[Ox] at q0 ⊢;go_wp2_with fail;refine KX.out.mono ?_;rintro e w2⟨rfl,hb2⟩;go_wp2_with fail;refine(KW.out w2).mono ?_;rintro e w3⟨rfl,hb3⟩;go_wp2;go_ret3;rw[HP2.out,HA2.out];exact Di HY.out (Ar (Ar HB1.out hb2) hb3) rfl
  ·have hn2:1<n:=by omega
   have hr0:r≠[]:=fun e=>by have:=HN.out;rw[e] at this;simp at this;omega
   have HA2:Hid (y.textP r=(y,[],1)):=by unfold Hid;rw[YP.textP,if_neg hr0]
   have e1:decide ((1:Int)<(n:Int))=true:=decide_eq_true (by omega);have e2:decide (1<n)=true:=decide_eq_true hn2;clear hr0 h1 hn2;simp only[Ox] at q0 ⊢;go_wp2;go_ret3;rw[HP2.out,HA2.out];exact Di HY.out HB1.out rfl
 by_cases hc:w0=Tq
 ·subst hc
  have HP2:Hid (y.play line=y.cutP r):=by unfold Hid;rw[HP.out,if_pos rfl]
  clear HP KDO ha ht
  cases r with
  | nil=>
   obtain rfl:n=1:=by have:=HN.out;simp at this;omega
   have HA2:Hid (y.cutP []=(y,[],1)):=rfl;simp only[Tq] at q0 ⊢;go_wp2;go_ret3;rw[HP2.out,HA2.out];exact Di HY.out HB1.out rfl
  | cons x r=>
   have hrest:=HCR.out 99 117 116 x r HWR.out
   have hl4:4≤line.length:=by
    have h1:=Es 32 line;rw[HWR.out,Er 32 _ (by simp)] at h1;rw[←h1];simp[Tq]
   have hx0:((⟨line.toArray⟩:ByteArray).extract 4 line.length)=⟨(line.drop 4).toArray⟩:=by rw[M7,List.take_of_length_le (by simp)]
   have HX0:=zh hx0;have KN:=zh (Hw (line.drop 4) 32 w1 (by rw[List.length_drop];omega));rw[show((32:UInt8).toNat:Int)=32 from rfl] at KN;unfold Xa at KN;rw[hrest] at KN;have e1:decide ((n:Int)<2)=false:=decide_eq_false (by have:=HN.out;simp at this;omega);have e2:decide (n<2)=false:=decide_eq_false (by have:=HN.out;simp at this;omega);have e3:(4:Int)≤(line.length:Int):=by omega
   have e4:((4:Int)≤(line.length:Int))=True:=eq_true (by omega);clear hrest HCR HPC hx0;simp only[Tq] at q0 ⊢;go_wp2_with fail;rw[HX0.out];refine KN.out.mono ?_;rintro e w2 (⟨xs,ao,co2,hx,rfl,ho2,hb2⟩|⟨hx,rfl,hb2⟩);rotate_left
   ·have HA2:Hid (y.cutP (x::r)=(y,[],1)):=by unfold Hid;rw[YP.cutP,hx]
    clear hx KN;go_wp2;go_ret3;rw[HP2.out,HA2.out];exact Di HY.out (Ar HB1.out hb2) rfl
   have d0:=(hb2.cell (p:=⟨b,off,none⟩) hbl1).trans q0;have HY2:=zh (HY1.out.below hb2);have HB2:=zh (Ar HB1.out hb2)
   by_cases h1:xs.length=1
   ·obtain⟨v,rfl⟩:=List.length_eq_one_iff.1 h1
    have HA2:Hid (y.cutP (x::r)=(⟨y.c,(Gx y.d v).1⟩,okB,(Gx y.d v).2)):=by unfold Hid;rw[YP.cutP,hx]
    obtain⟨b2,off2,rfl,hbl2,x0⟩:=(Ac.owned ho2).1.int 0 (by simp);obtain⟨cur,hcur⟩:=Ey ho2 b2 rfl;have x0:w2.cell? ⟨b2,off2,none⟩=some (.int .i64 v):=x0;have y2:=HY2.out.blk.cell 1 rfl;have hD:Below w2.heap.size w2 w2.drew:=Ab zb 1;have hYD:=HY2.out.below hD;have K1:=zh (Yo Z.T y.d v w2.drew hYD.tape)
    have hbT:b2≠Z.T:=fun e=>by
     have h3:=HY2.out.tape;rw[←e,D4,Af,hcur] at h3;injection h3 with h3;injection h3 with _ h4;revert h4;decide
    have hD2:b2<w2.drew.heap.size:=Nat.lt_of_lt_of_le hbl2 hD.size;have xD:=(hD.cell (p:=⟨b2,off2,none⟩) hbl2).trans x0;clear hx KN ho2 hcur h1 q0 y1;go_upto_region 21 with(fail)
    go_region_held3 (fun w'=>w'.cell? ⟨Z.yb,1,none⟩=some (.pointer (some ⟨Z.T,0,none⟩))∧w'.cell? ⟨b2,off2,none⟩=some (.int .i64 v)) (go_keep)
     ((go_at_call 112;(with_reducible refine K1.out.mono ?_);rintro e w3⟨rfl,hT3,hg3⟩;have hF3:Fr (fun k=>k=Z.T) w2.drew w3:=Fr.grown hg3 (fun k e=>Eq.symm (Option.some.inj e));have hY3:=Bk.taped hYD hF3 hT3;have y2:=Af.cell (Bk.blk hY3) 1 rfl;have x0:=(Fr.cell hF3 (p:=⟨b2,off2,none⟩) hD2 hbT).trans xD))
    go_wp2;go_ret3;rw[HP2.out,HA2.out];exact⟨Z,okB,rfl,rfl,fun _=>rfl,hY3,Fr.trans ((Fr.of HB2.out).off hD) hF3⟩
   ·have HA2:Hid (y.cutP (x::r)=(y,[],1)):=by
     unfold Hid;rw[YP.cutP,hx]
     rcases xs with _|⟨a,_|⟨c,d⟩⟩
     ·rfl
     ·simp at h1
     ·rfl
    have hne:((xs.length:Int) != 1)=true:=by rw[bne_iff_ne];omega
    clear hx KN ho2 h1;go_wp2;go_ret3;rw[HP2.out,HA2.out];exact Di HY.out HB2.out rfl
 by_cases hm:w0=Tu
 ·subst hm
  have HP2:Hid (y.play line=y.midP r):=by unfold Hid;rw[HP.out,if_neg (by decide),if_neg (by decide),if_pos rfl]
  clear HP KDO ha ht hc
  cases r with
  | nil=>
   obtain rfl:n=1:=by have:=HN.out;simp at this;omega
   have HA2:Hid (y.midP []=(y,[],1)):=rfl;simp only[Tu] at q0 ⊢;go_wp2;go_ret3;rw[HP2.out,HA2.out];exact Di HY.out HB1.out rfl
  | cons x r=>
   have hrest:=HCR.out 109 105 100 x r HWR.out
   have hl4:4≤line.length:=by
    have h1:=Es 32 line;rw[HWR.out,Er 32 _ (by simp)] at h1;rw[←h1];simp[Tu]
   have hx0:((⟨line.toArray⟩:ByteArray).extract 4 line.length)=⟨(line.drop 4).toArray⟩:=by rw[M7,List.take_of_length_le (by simp)]
   have HX0:=zh hx0;have KN:=zh (Hw (line.drop 4) 32 w1 (by rw[List.length_drop];omega));rw[show((32:UInt8).toNat:Int)=32 from rfl] at KN;unfold Xa at KN;rw[hrest] at KN;have e1:decide ((n:Int)<2)=false:=decide_eq_false (by have:=HN.out;simp at this;omega);have e2:decide (n<2)=false:=decide_eq_false (by have:=HN.out;simp at this;omega);have e3:(4:Int)≤(line.length:Int):=by omega
   have hrl:(x::r).length≤151:=by have:=HN.out;simp at this ⊢;omega
   clear hrest HCR HPC hx0;simp only[Tu] at q0 ⊢;go_wp2_with fail;rw[HX0.out];refine KN.out.mono ?_;rintro e w2 (⟨xs,ao,co2,hx,rfl,ho2,hb2⟩|⟨hx,rfl,hb2⟩);rotate_left
   ·have HA2:Hid (y.midP (x::r)=(y,[],1)):=by unfold Hid;rw[YP.midP,hx]
    clear hx KN;go_wp2;go_ret3;rw[HP2.out,HA2.out];exact Di HY.out (Ar HB1.out hb2) rfl
   have d0:=(hb2.cell (p:=⟨b,off,none⟩) hbl1).trans q0;have HY2:=zh (HY1.out.below hb2);have HB2:=zh (Ar HB1.out hb2)
   by_cases h1:xs.length<2
   ·have HA2:Hid (y.midP (x::r)=(y,[],1)):=by
     unfold Hid;rw[YP.midP,hx]
     rcases xs with _|⟨a,_|⟨c,d⟩⟩
     ·rfl
     ·rfl
     ·exfalso;rw[List.length_cons,List.length_cons] at h1;omega
    have e4:decide ((xs.length:Int)<2)=true:=decide_eq_true (by omega);have e5:decide (xs.length<2)=true:=decide_eq_true h1;clear hx KN ho2 h1;go_wp2;go_ret3;rw[HP2.out,HA2.out];exact Di HY.out HB2.out rfl
   have hlx:=En hx
   obtain⟨kk,aa,l,rfl⟩:∃kk aa l,xs=kk::aa::l:=by
    rcases xs with _|⟨x0,_|⟨a1,q⟩⟩
    ·simp at h1
    ·simp at h1
    ·exact⟨x0,a1,q,rfl⟩
   have HA2:Hid (y.midP (x::r)=(y,Lib.itoa (E2 (aa::l) kk).1,(E2 (aa::l) kk).2.1)):=by unfold Hid;rw[YP.midP,hx]
   have hmb:=Ya (l:=aa::l) (fun z hz=>Ja hx z (List.mem_cons_of_mem _ hz)) kk;obtain⟨m,hmm⟩:∃m,m=(kk::aa::l).length:=⟨_,rfl⟩
   rw[←hmm] at hlx h1 ⊢;obtain⟨b2,off2,rfl,hbl2,x0⟩:=(Ac.owned ho2).1.int 0 (by simp);have x0:w2.cell? ⟨b2,off2,none⟩=some (.int .i64 kk):=x0;have hco:m≤co2:=by have:=(Ac.owned ho2).2.2.1;rw[hmm];exact this
   have hdr:Ac w2 (some ⟨b2,off2+1,none⟩) (Aa (aa::l)):=(Ac.owned ho2).1.drop 1;have HD:=zh hdr;have HM:=zh hmm;have KM:=zh (fun(W:World) (hb:Below w2.heap.size w2 W)=>zC4 (some ⟨b2,off2+1,none⟩) (m-1) (co2-1) (aa::l) kk W (by rw[HM.out];simp) (HD.out.below hb) (by omega));have d1:decide ((m:Int)<2)=false:=decide_eq_false (by omega);have i1:(1:Int)≤(m:Int):=by omega
   have i0:0<m:=by omega
   have i2:(0:Int)<(m:Int):=by omega
   have c1:¬co2=1:=by omega
   clear hx KN ho2 hlx hmm hdr q0 y1;generalize E2 (aa::l) kk=z at *;obtain⟨z1,z2,z3⟩:=z;dsimp only at HA2 KM hmb;have hD:Below w2.heap.size w2 w2.drew:=Ab zb 1;have KM1:=zh (KM.out _ hD);have KSG:=zh (fun W:World=>Il z1 W hmb);have hal:=(Below.refl w2.heap.size w2).alloc zl (.cells #[.int .i64 0,.int .i64 0] 55);have hD2:Below w2.heap.size w2 (w2.alloc (.cells #[.int .i64 0,.int .i64 0] 55)).drew:=hal.drew;have FD:Af (w2.alloc (.cells #[.int .i64 0,.int .i64 0] 55)).drew w2.heap.size 55 #[.int .i64 0,.int .i64 0]:=Af.new w2 _ _;have KM2:=zh (KM.out _ hD2);have hbE:b2<(w2.alloc (.cells #[.int .i64 0,.int .i64 0] 55)).drew.heap.size:=Nat.lt_of_lt_of_le hbl2 hD2.size;have xE:=(hD2.cell (p:=⟨b2,off2,none⟩) hbl2).trans x0;have hbn:¬(b2=w2.heap.size):=by omega
   have hbn2:¬(w2.heap.size=b2):=by omega
   clear hal;have hbD:b2<w2.drew.heap.size:=Nat.lt_of_lt_of_le hbl2 hD.size;have xD:=(hD.cell (p:=⟨b2,off2,none⟩) hbl2).trans x0;have HB2b:=zh HB2.out;go_upto_region 22 with(fail);go_cut [12,13] from 109 to 117 (fun s12 s13 wx=>∃fb:Nat,s12=.int .i64 z1∧s13=.pointer (some ⟨fb,0,none⟩)∧wx.cell? ⟨fb,0,none⟩=some (.int .i64 (z2:Nat))∧fb<wx.heap.size∧Below w2.heap.size w2 wx)
   case first=>
    go_region_held3 (fun w'=>w'.cell? ⟨b2,off2,none⟩=some (.int .i64 kk)) (go_keep)
     (first
      | (go_at_call 113;(with_reducible refine KM1.out.mono ?_);rintro e w3⟨rfl,hb3⟩;have hv3:=Ar hD hb3;have x0:=(hb3.cell (p:=⟨b2,off2,none⟩) hbD).trans xD)
      | (go_at_call 113;(with_reducible refine KM2.out.mono ?_);rintro e w3⟨rfl,hb3⟩;have hv3:=Ar hD2 hb3;have x0:=(hb3.cell (p:=⟨b2,off2,none⟩) hbE).trans xE;have F3:=Af.kept FD hb3;have f0:=Af.cell F3 0 rfl;have f1:=Af.cell F3 1 rfl;have g0:=Af.frozen F3 0;have g1:=Af.frozen F3 1))
    all_goals
     go_wp2_with fail;go_meet
     case rel=>first
      | exact⟨_,rfl,rfl,by simp,by simp,hv3.alloc hv3.size _⟩
      | exact⟨_,rfl,rfl,by go_simp,by simpa using F3.lt,(hv3.setCell (p:=⟨w2.heap.size,0,none⟩) zl _).setCell (p:=⟨w2.heap.size,1,none⟩) zl _⟩
   case rest=>
    obtain⟨fb,rfl,rfl,f0,hfl,hbx⟩:=hcut;have hD5:Below wc.heap.size wc wc.drew:=Ab zb 1;have hfl5:fb<wc.drew.heap.size:=Nat.lt_of_lt_of_le hfl hD5.size;have f5:=(hD5.cell (p:=⟨fb,0,none⟩) hfl).trans f0;have HBX:=zh (Ar (Ar HB2b.out hbx) hD5);clear x0 hbn hbn2 xD xE FD hD hD2 KM1 KM2 KM hbx hD5;go_upto_region 23 with(fail)
    go_region_held3 (fun w'=>w'.cell? ⟨fb,0,none⟩=some (.int .i64 (z2:Nat))) (go_keep)
     ((go_at_call 90;(with_reducible refine(KSG.out _).mono ?_);rintro e w5⟨rfl,hb5⟩;have f0:=(hb5.cell (p:=⟨fb,0,none⟩) hfl5).trans f5))
    go_wp2;go_ret3;rw[HP2.out,HA2.out];exact Di HY.out (Ar HBX.out hb5) rfl
 by_cases hx:w0=Og
 ·subst hx
  have HP2:Hid (y.play line=y.nextP r):=by unfold Hid;rw[HP.out,if_neg (by decide),if_neg (by decide),if_neg (by decide),if_pos rfl]
  clear HP KDO ha ht hc hm HCR
  by_cases h4:n=4
  rotate_left
  ·have HA2:Hid (y.nextP r=(y,[],1)):=Uz (by have:=HN.out;omega)
   have e1:((n:Int) != 4)=true:=by rw[bne_iff_ne];omega
   clear h4;simp only[Og] at q0 ⊢;go_wp2;go_ret3;rw[HP2.out,HA2.out];exact Di HY.out HB1.out rfl
  subst h4;obtain⟨x,p,q,rfl⟩:=zJg (l:=r) (by have:=HN.out;omega);have q1:=HC.out 1 x rfl;have q2:=HC.out 2 p rfl;have q3:=HC.out 3 q rfl;have l1:=HPC.out x (by simp);have l2:=HPC.out p (by simp);have l3:=HPC.out q (by simp);have KN:=zh (Hw x 44 w1 (by omega));rw[show((44:UInt8).toNat:Int)=44 from rfl] at KN;unfold Xa at KN;have KB:=zh (fun W:World=>D8 p W (by omega));have KQ:=zh (fun W:World=>D8 q W (by omega));simp only[Og] at q0 ⊢;go_wp2_with fail;refine KN.out.mono ?_;rintro e w2 (⟨xs,ao,co2,hx,rfl,ho2,hb2⟩|⟨hx,rfl,hb2⟩);rotate_left
  ·have HA2:Hid (y.nextP [x,p,q]=(y,[],1)):=Ie (Or.inl hx)
   have d2:=(hb2.cell (p:=⟨b,off+2,none⟩) hbl1).trans q2;have d3:=(hb2.cell (p:=⟨b,off+3,none⟩) hbl1).trans q3;clear hx KN;go_wp2_with fail;refine(KB.out w2).mono ?_;rintro e _⟨rfl,rfl⟩;go_wp2_with fail;refine(KQ.out w2).mono ?_;rintro e _⟨rfl,rfl⟩;go_wp2;go_ret3;rw[HP2.out,HA2.out];exact Di HY.out (Ar HB1.out hb2) rfl
  have d2:=(hb2.cell (p:=⟨b,off+2,none⟩) hbl1).trans q2;have d3:=(hb2.cell (p:=⟨b,off+3,none⟩) hbl1).trans q3;have HB2:=zh (Ar HB1.out hb2);have hrow:=(Ac.owned ho2).1
  have hxl:xs.length≤151:=by
   have h1:=En hx;have h2:=Ch 44 x;omega
  clear KN ho2 hb2 q0 q1 q2 q3
  by_cases hb:Aw p=true
  rotate_left
  ·have hb':Aw p=false:=by simpa using hb
   have HA2:Hid (y.nextP [x,p,q]=(y,[],1)):=Ie (Or.inr (Or.inl (by unfold Aw at hb';simpa using hb')));have K1:=zh (KB.out w2);rw[hb'] at K1;clear hx hb hb';go_wp2_with fail;refine K1.out.mono ?_;rintro e _⟨rfl,rfl⟩;go_wp2_with fail;refine(KQ.out w2).mono ?_;rintro e _⟨rfl,rfl⟩;go_wp2;go_ret3;rw[HP2.out,HA2.out];exact Di HY.out HB2.out rfl
  have K1:=zh (KB.out w2);rw[hb] at K1
  by_cases hq:Aw q=true
  rotate_left
  ·have hq':Aw q=false:=by simpa using hq
   have HA2:Hid (y.nextP [x,p,q]=(y,[],1)):=Ie (Or.inr (Or.inr (by unfold Aw at hq';simpa using hq')));have K2:=zh (KQ.out w2);rw[hq'] at K2;clear hx hb hq hq';go_wp2_with fail;refine K1.out.mono ?_;rintro e _⟨rfl,rfl⟩;go_wp2_with fail;refine K2.out.mono ?_;rintro e _⟨rfl,rfl⟩;go_wp2;go_ret3;rw[HP2.out,HA2.out];exact Di HY.out HB2.out rfl
  have K2:=zh (KQ.out w2);rw[hq] at K2
  have hnp:Cl p=some (Ah p):=by
   unfold Aw at hb;unfold Ah
   cases h:Cl p with
   | none=>rw[h] at hb;cases hb
   | some v=>rfl
  have hnq:Cl q=some (Ah q):=by
   unfold Aw at hq;unfold Ah
   cases h:Cl q with
   | none=>rw[h] at hq;cases hq
   | some v=>rfl
  have HA2:Hid (y.nextP [x,p,q]=(y,Lib.itoa (Dy xs (Ah p) (Ah q)).1,(Dy xs (Ah p) (Ah q)).2.1)):=Sc hx hnp hnq;have KX:=zh (Yp ao xs.length co2 xs (Ah p) (Ah q) w2 rfl hrow (by omega));have hnb:=Qi (l:=xs) (by omega) (Ah p) (Ah q);generalize Dy xs (Ah p) (Ah q)=z at *;obtain⟨z1,z2,z3⟩:=z;dsimp only at HA2 KX hnb;have KD:=zh (fun W:World=>Cp z1 W hnb);generalize Ah p=np at *;generalize Ah q=nq at *;clear hx hb hq hnp hnq hrow KB KQ;go_wp2_with fail;refine K1.out.mono ?_;rintro e _⟨rfl,rfl⟩;go_wp2_with fail;refine K2.out.mono ?_;rintro e _⟨rfl,rfl⟩;go_wp2_with fail;refine KX.out.mono ?_;rintro e w3⟨rfl,hb3⟩;obtain⟨W3,hW3⟩:∃W,W=w3.alloc (.cells #[.int .i64 (z2:Nat),.int .i64 z3] 55):=⟨_,rfl⟩
  have hal:Below w3.heap.size w3 W3:=by rw[hW3];exact zb.alloc zl _
  have f0:W3.cell? ⟨w3.heap.size,0,none⟩=some (.int .i64 (z2:Nat)):=by rw[hW3];simp
  have hfl:w3.heap.size<W3.heap.size:=by rw[hW3];simp
  have HW3:=zh hW3.symm;have hD5:Below W3.heap.size W3 W3.drew:=Ab zb 1;have HBX:=zh (Ar (Ar (Ar HB2.out hb3) hal) hD5);clear hW3 hal hb3 K1 K2 KX;go_upto_region 33 with(fail);rw[HW3.out];generalize w3.heap.size=fb at *;have hfl5:fb<W3.drew.heap.size:=Nat.lt_of_lt_of_le hfl hD5.size;have f5:=(hD5.cell (p:=⟨fb,0,none⟩) hfl).trans f0
  go_region_held3 (fun w'=>w'.cell? ⟨fb,0,none⟩=some (.int .i64 (z2:Nat))) (go_keep)
   ((go_at_call 52;(with_reducible refine(KD.out _).mono ?_);rintro e w5⟨rfl,hb5⟩;have f0:=(hb5.cell (p:=⟨fb,0,none⟩) hfl5).trans f5))
  go_wp2;go_ret3;rw[HP2.out,HA2.out];exact Di HY.out (Ar HBX.out hb5) rfl
 have HP2:Hid (y.play line=y.doF line):=by unfold Hid;rw[HP.out,if_neg hc,if_neg ha,if_neg hm,if_neg hx,if_neg ht]
 have K1:=zh (KDO.out w1 HY1.out);unfold RDo at K1;rw[←HP2.out] at K1;have g1:(w0==[97,103,97,105,110])=false:=by simpa[Kf] using ha
 have g2:(w0==[116,101,120,116])=false:=by simpa[Ox] using ht
 have g3:(w0==[99,117,116])=false:=by simpa[Tq] using hc
 have g4:(w0==[109,105,100])=false:=by simpa[Tu] using hm
 have g5:(w0==[110,101,120,116])=false:=by simpa[Og] using hx
 clear HP HP2 KDO HCR ha ht hc hm hx;generalize y.play line=r2 at *;go_wp2_with fail;refine K1.out.mono ?_;rintro e w2⟨Z',hT2,rfl,hZ2,hF2⟩;go_wp2;go_ret3;exact⟨Z',_,hT2,rfl,fun _=>rfl,hZ2,Fr.trans (Fr.of HB1.out) hF2⟩
theorem zB0(y:YP)(t:List UInt8):(y.play t).2.2≤11:=by
 unfold YP.play
 split
 ·unfold YP.cutP
  split
  ·unfold Gx
   repeat(first|exact Nat.le_of_ble_eq_true rfl|split)
  ·exact Nat.le_of_ble_eq_true rfl
 split
 ·unfold YP.againP
  split<;>exact Nat.le_of_ble_eq_true rfl
 split
 ·unfold YP.midP
  split
  ·exact zIj _ _
  ·exact Nat.le_of_ble_eq_true rfl
 split
 ·unfold YP.nextP
  split
  ·exact zGk _ _ _
  ·exact Nat.le_of_ble_eq_true rfl
 split
 ·unfold YP.textP
  split<;>exact Nat.le_of_ble_eq_true rfl
 exact zFl y t
def Kd(txt:Nat→List UInt8)(ea:Nat→Addr)(w:World):Prop:=∀k,1≤k→k≤11→(ea k).block<w.heap.size∧w.cell? (ea k)=some (.string ⟨(txt k).toArray⟩)
theorem Kd.below{txt:Nat→List UInt8}{ea:Nat→Addr}{w w':World}(h:Kd txt ea w)(hb:Below w.heap.size w w'):Kd txt ea w':=
 fun k h1 h2=>⟨Nat.lt_of_lt_of_le (h k h1 h2).1 hb.size,(hb.cell (h k h1 h2).1).trans (h k h1 h2).2⟩
theorem Cf.grown{w w':World}{base base' pb size n:Nat}{Y:YL}{y:YP}{v:Value}{xs:List Value}(h:Cf w base pb Y y)(hv:w.ownsRow base' 9 size v n xs)(hg:w.grownBy w' v.ownBlock):Cf w' base pb Y y:=by
 have hst:∀k,v.ownBlock=some k→∃cur fz,w.heap[k]?=some (.cells cur 9 fz):=fun k e=>by
  rcases hv.2 with⟨rfl,_⟩|⟨g,cap,cur,rfl,h2,h3,h4⟩
  ·simp[Value.ownBlock] at e
  ·simp[Value.ownBlock] at e
   subst e;exact⟨cur,(0,0),h3⟩
 refine h.kept (S:=fun k=>v.ownBlock=some k) (Fr.grown hg (fun k e=>e)) (fun k hk e=>?_) (fun k _ e=>?_)
 ·obtain⟨cur,fz,h1⟩:=hst k e
  obtain⟨_,_,cur',fz',t,h3,h4⟩:=h.owns hk;rw[h1] at h3;injection h3 with h3;injection h3 with _ e2;subst e2
  rcases h4 with h4|h4|h4|h4<;>revert h4<;>decide
 ·obtain⟨cur,fz,h1⟩:=hst k e
  exact⟨cur,fz,_,h1,Or.inr (Or.inr (Or.inr (Or.inr rfl)))⟩
theorem zAs{w w':World}{base base' pb size n:Nat}{Y:YL}{y:YP}{v:Value}{xs:List Value}(hv:w.ownsRow base' 9 size v n xs)(h:Cf w base pb Y y)(hf:Fr (Rb w pb Y) w w'):w'.ownsRow base' 9 size v n xs:=
 Dh hv hf (fun k cur hk hS=>by
  obtain⟨_,_,cur',fz',t,h3,h4⟩:=h.owns hS;rw[hk] at h3;injection h3 with h3;injection h3 with _ e2;subst e2
  rcases h4 with h4|h4|h4|h4<;>revert h4<;>decide)
theorem Zs(p:Addr)(t:List UInt8)(w:World)(h:w.cell? p=some (.string ⟨t.toArray⟩)) :
 Calls prog 330 #[.pointer (some p)] w fun e w'=>e=.returned (.string ⟨t.toArray⟩)∧w=w':=by
 go_enter func330,ntmps330;go_wp2;go_ret;exact⟨rfl,rfl⟩
theorem Yu(txt:Nat→List UInt8)(ea:Nat→Addr)(a:Option Addr)(n cap:Nat)(l:List (List UInt8))(w:World)(hG:E6 w ea)(hT:Bf w)(hX:Kd txt ea w)
 (hn:l.length=n) (hr:Ac w a (Ad l)) (h80:n≤80) (h150:∀s∈l,s.length≤150) :
 Calls prog 26 #[.slice a n cap] w fun e w'=>∃v,e=.returned (.tuple #[v,.nilIface])∧w'.ownsRow w.heap.size 9 1 v n (Ad (YP.new.plays txt l))∧Below w.heap.size w w':=by
 obtain⟨i0,hi,hz0,hz1,hz2⟩:=info_parts Do;have hi':=zh hi;have hz0':=zh hz0;have hz1':=zh hz1;have hz2':=zh hz2;clear hi hz0 hz1 hz2;have KN:=zh (zHq ea w (hG.glob.sub (by simp)));have HE:=zh (fun(W:World) (hb:Below w.heap.size w W)=>Lg.of hG hT hb zl);have KP:=zh (fun(W:World) (pb:Nat) (Y:YL) (y:YP) (t:List UInt8) (k:Nat) (dn:List (List UInt8)) (hb:Below w.heap.size w W) (h:Cf W w.heap.size pb Y y) (hI:Fg k y dn) (hk:k≤200) (ht:t.length≤150)=>zD3 ea w.heap.size pb Y y t k dn W (HE.out W hb) h hI hk ht);have KB:=zh (fun(W:World) (v:Value) (c:Nat) (pl:Int) (hb:Below w.heap.size w W) (hv:Bg ea W v c pl) (h0:c≠0)=>zD1 ea v c pl W (hG.below hb).typ hv h0);have HX:=zh (fun(W:World) (hb:Below w.heap.size w W)=>hX.below hb);have HR:=zh hr;have HN:=zh hn;have H150:=zh h150;have HEP:=zh (fun(k:Nat) (hk:k≠0)=>Ae ea hk);have d1:decide ((80:Int)<(n:Int))=false:=decide_eq_false (by omega);clear hG hT hX hr hn h150;go_enter func26,ntmps26;go_wp2_with fail;refine KN.out.mono ?_;rintro e w1⟨Y,rfl,hY,hb1⟩;have hal:Below w1.heap.size w1 (w1.alloc (.cells #[.pointer (some ⟨Y.yb,0,none⟩)] 120)):=zb.alloc zl _;have HP1:Hid (Cf (w1.alloc (.cells #[.pointer (some ⟨Y.yb,0,none⟩)] 120)) w.heap.size w1.heap.size Y YP.new):=⟨Af.new w1 _ _,hb1.size,hY.below hal⟩;have HV1:=zh (Ar hb1 hal);clear hY hal;go_wp2;have HV1:Hid (Below w.heap.size w (w1.alloc (.cells #[.pointer (some ⟨Y.yb,0,none⟩)] 120))):=HV1;obtain⟨W0,hW0⟩:∃W,W=w1.alloc (.cells #[.pointer (some ⟨Y.yb,0,none⟩)] 120):=⟨_,rfl⟩
 rw[←hW0] at HP1 HV1 ⊢;generalize w1.heap.size=pb at *;clear hW0;go_loopw [5,19] (fun v i wr=>∃(k:Nat) (Y:YL) (dn:List (List UInt8)),k≤n∧i=.int .i64 k∧Hid (Fg k (YP.new.after (l.take k)) dn)∧Hid (Cf wr w.heap.size pb Y (YP.new.after (l.take k)))∧Hid (wr.ownsRow w.heap.size 9 1 v k (Ad (YP.new.plays txt (l.take k))))∧Hid (Below w.heap.size w wr)) (fun _ i _=>n-(intOf i).toNat)
 case atStart=>exact⟨0,Y,[],Nat.zero_le _,rfl,zBt,HP1,World.ownsRow_nil _ _ _ _,HV1⟩
 case round=>
  clear HP1 HV1;obtain⟨k,Y,dn,hk,rfl,inv,hP,hown,hb⟩:=hrel
  by_cases hlt:k<n
  ·have hkt:k<l.length:=by have:=HN.out;omega
   obtain⟨b,off,rfl,hbl,cw⟩:=Ms HR.out k hkt;have hs150:=H150.out _ (List.getElem_mem hkt);have c0:=(hb.out.cell (p:=⟨b,off+k,none⟩) hbl).trans cw;have hi0:(0:Int)≤(k:Int):=by omega
   have hi1:(k:Int)<(n:Int):=by omega
   have HTK:Hid (l.take (k+1)=l.take k++[l[k]]):=List.take_succ_eq_append_getElem hkt;generalize l[k]=s at *;obtain⟨dn2,hinv2⟩:=inv.out.play (by omega) hs150;have HAF:Hid (YP.new.after (l.take (k+1))=((YP.new.after (l.take k)).play s).1):=by unfold Hid;rw[HTK.out,M6]
   have HPL:Hid (YP.new.plays txt (l.take (k+1))=YP.new.plays txt (l.take k)++[Ve txt ((YP.new.after (l.take k)).play s)]):=by unfold Hid;rw[HTK.out,Nj]
   have INV2:Hid (Fg (k+1) (YP.new.after (l.take (k+1))) dn2):=by unfold Hid;rw[HAF.out];exact hinv2
   have K1:=zh (KP.out wr pb Y _ s k dn hb.out hP.out inv.out (by omega) hs150);have hle:=zB0 (YP.new.after (l.take k)) s;obtain⟨av,cv,rfl⟩:=Aj hown.out;clear inv hinv2 HTK;generalize YP.new.after (l.take k)=y at *;generalize YP.new.plays txt (l.take k)=outs at *;generalize hpl:y.play s=r at *;obtain⟨y2,ans,er⟩:=r;dsimp only at HAF hle;clear hpl;go_wp2_with fail;refine K1.out.mono ?_;rintro e w5⟨Y',t,v,pl,rfl,hE5,ht,hP5,hF5⟩;dsimp only at hE5 ht hP5;have hv5:Below w.heap.size w w5:=hb.out.trans (hF5.below hb.out.size (fun j hj=>(hP.out.owns hj).1));have HO5:=zh (zAs hown.out hP.out hF5);have HP5:=zh hP5;clear K1 hown hP hb hF5 hP5 c0
   by_cases hz:er=0
   ·subst hz
    obtain rfl:=hE5.nil;obtain rfl:=ht rfl;have HPL2:Hid (YP.new.plays txt (l.take (k+1))=outs++[t]):=by unfold Hid;rw[HPL.out];rfl
    have HO2:=zh (HO5.out.alloc (.cells #[.string ⟨t.toArray⟩] 9));have HW:=zh (Ac.new_at w5 [.string ⟨t.toArray⟩] 9 _ rfl);have hal:Below w5.heap.size w5 (w5.alloc (.cells #[.string ⟨t.toArray⟩] 9)):=zb.alloc zl _;have HV:=zh (Ar hv5 hal);have HP6:=zh (HP5.out.below hal);clear hE5 ht HP5 HO5 hv5 hal HPL;go_wp2_with (at_builtin;refine Ag _ rfl (.tmp 34) (.tmp 36) 22 rfl w.heap.size 9 i0 _ 1 16 underlying22 hi'.out hz0'.out hz1'.out hz2'.out rfl (by decide) _ k (Ad outs) rfl HO2.out (some ⟨w5.heap.size,0,none⟩) 1 1 [.string ⟨t.toArray⟩] rfl rfl HW.out ?_ ?_ ?_ ?_ ?_;(simp[Value.oneCell']);(unfold maxLen;omega);(omega);(exact HV.out.size);intro v1 w6 ho1 hg1 hq hm1;clear hq hm1);have hv6:=HV.out.grown hg1 HV.out.size (fun j e=>(HO2.out.lt j e).1);go_roundw
    case rel=>exact⟨k+1,Y',dn2,by omega,by go_num,INV2,by rw[HAF.out];exact HP6.out.grown HO2.out hg1,by rw[HPL2.out,Hr];exact ho1,hv6⟩
    case measure=>simp[intOf];omega
   ·have HZ:=zh hz
    have K2:=zh (KB.out w5 v er pl hv5 hE5 hz);rw[HEP.out er hz] at K2;obtain⟨et,ex,rfl⟩:=hE5.held hz;have hx1:1≤er:=by omega
    have HXX:=zh (fun(W:World) (hb:Below w.heap.size w W)=>(HX.out W hb er hx1 hle).2);have HPL2:Hid (YP.new.plays txt (l.take (k+1))=outs++[txt er]):=by unfold Hid;rw[HPL.out];unfold Ve;rw[if_neg hz]
    clear hE5 ht HPL hz;go_wp2_with fail;refine K2.out.mono ?_;rintro e w6⟨rfl,hb6⟩;have hv6:=Ar hv5 hb6;have x0:=HXX.out w6 hv6;have HO6:=zh (Cb HO5.out hb6);have HP6:=zh (HP5.out.below hb6);have HO2:=zh (HO6.out.alloc (.cells #[.string ⟨(txt er).toArray⟩] 9));have HW:=zh (Ac.new_at w6 [.string ⟨(txt er).toArray⟩] 9 _ rfl);have hal:Below w6.heap.size w6 (w6.alloc (.cells #[.string ⟨(txt er).toArray⟩] 9)):=zb.alloc zl _;have HV:=zh (Ar hv6 hal);have HP7:=zh (HP6.out.below hal);clear K2 HXX hv5 hv6 hal HP5 HO5 HO6 HP6 hb6;generalize txt er=tx at *;go_wp2_with fail;refine(Zs (ea er) tx w6 x0).mono ?_;rintro e wx⟨rfl,rfl⟩;go_wp2_with (at_builtin;refine Ag _ rfl (.tmp 34) (.tmp 36) 22 rfl w.heap.size 9 i0 _ 1 16 underlying22 hi'.out hz0'.out hz1'.out hz2'.out rfl (by decide) _ k (Ad outs) rfl HO2.out (some ⟨w6.heap.size,0,none⟩) 1 1 [.string ⟨tx.toArray⟩] rfl rfl HW.out ?_ ?_ ?_ ?_ ?_;(simp[Value.oneCell']);(unfold maxLen;omega);(omega);(exact HV.out.size);intro v1 w7 ho1 hg1 hq hm1;clear hq hm1);have hv7:=HV.out.grown hg1 HV.out.size (fun j e=>(HO2.out.lt j e).1);go_roundw
    case rel=>exact⟨k+1,Y',dn2,by omega,by go_num,INV2,by rw[HAF.out];exact HP7.out.grown HO2.out hg1,by rw[HPL2.out,Hr];exact ho1,hv7⟩
    case measure=>simp[intOf];omega
  ·obtain rfl:k=n:=by omega
   obtain⟨av,cv,rfl⟩:=Aj hown.out;have HL:Hid (l.take k=l):=by unfold Hid;rw[←HN.out,List.take_length]
   rw[HL.out] at hown;clear inv hP;go_wp2;go_ret2;exact⟨_,rfl,hown.out,hb.out⟩
theorem Uq(txt:Nat→List UInt8)(ea:Nat→Addr)(w:World)(hG:E6 w ea)(hT:Bf w)(hX:Kd txt ea w) :
 Calls prog 24 #[] w fun e w'=>e=.returned (.bool true)∧Below w.heap.size w w':=by
 have hb0:Below w.heap.size w (w.alloc (.cells #[.string ⟨#[112,108,97,110,32,50,44,49]⟩,.string ⟨#[115,101,116,32,49,32,53]⟩,.string ⟨#[115,108,111,116,32,45]⟩,.string ⟨#[115,108,111,116,32,45]⟩,.string ⟨#[104,105,115,116,111,114,121,32,50]⟩,.string ⟨#[116,111,116,97,108,32,49]⟩,.string ⟨#[118,105,101,119,32,49]⟩,.string ⟨#[109,105,100,32,49,32,51,32,57,32,52]⟩] 9)):=zb.alloc zl _;have hr0:Ac (w.alloc (.cells #[.string ⟨#[112,108,97,110,32,50,44,49]⟩,.string ⟨#[115,101,116,32,49,32,53]⟩,.string ⟨#[115,108,111,116,32,45]⟩,.string ⟨#[115,108,111,116,32,45]⟩,.string ⟨#[104,105,115,116,111,114,121,32,50]⟩,.string ⟨#[116,111,116,97,108,32,49]⟩,.string ⟨#[118,105,101,119,32,49]⟩,.string ⟨#[109,105,100,32,49,32,51,32,57,32,52]⟩] 9)) (some ⟨w.heap.size,0,none⟩) (Ad G5):=Ac.new_at w (Ad G5) 9 _ rfl;have K1:=zh (Yu txt ea (some ⟨w.heap.size,0,none⟩) 8 8 G5 _ (hG.below hb0) (hT.below hb0) (hX.below hb0) rfl hr0 (by decide) (by decide));have HPL:=zh (X0 txt);have HPN:=zh (show(YP.new.plays txt G5).length=8 from Pg txt G5 YP.new);clear hG hT hX hr0;generalize YP.new.plays txt G5=ps at *;go_enter func24,ntmps24;go_wp2_with fail;refine K1.out.mono ?_;rintro e w1⟨v,rfl,hown,hb1⟩;obtain⟨av,cv,rfl⟩:=Aj hown;obtain⟨hrow,_,hcv,_⟩:=Ac.owned hown;have hv1:=Ar hb0 hb1;have c4:¬cv=4:=by omega
 obtain⟨b,off,rfl,hbl,_⟩:=hrow.at (fun e=>by have h1:=congrArg List.length e;simp[Ad] at h1;subst h1;simp at HPN;exact absurd HPN.out (by decide))
 have hd:Ac w1 (some ⟨b,off+4,none⟩) (Ad [[50,58,48,44,49,58,53],[53],[49,44,50,32,48,32,50],[52]]):=by
  have h:=hrow.drop 4;have e:(Ad ps).drop 4=Ad (ps.drop 4):=by simp[Ad]
  rw[e,HPL.out] at h;exact h
 have hal:Below w1.heap.size w1 (w1.alloc (.cells #[.string ⟨#[50,58,48,44,49,58,53]⟩,.string ⟨#[53]⟩,.string ⟨#[49,44,50,32,48,32,50]⟩,.string ⟨#[52]⟩] 9)):=zb.alloc zl _;have hr4:Ac (w1.alloc (.cells #[.string ⟨#[50,58,48,44,49,58,53]⟩,.string ⟨#[53]⟩,.string ⟨#[49,44,50,32,48,32,50]⟩,.string ⟨#[52]⟩] 9)) (some ⟨w1.heap.size,0,none⟩) (Ad [[50,58,48,44,49,58,53],[53],[49,44,50,32,48,32,50],[52]]):=Ac.new_at w1 (Ad [[50,58,48,44,49,58,53],[53],[49,44,50,32,48,32,50],[52]]) 9 _ rfl;have KS:=zh (Vf (some ⟨b,off+4,none⟩) (some ⟨w1.heap.size,0,none⟩) (cv-4) 4 [[50,58,48,44,49,58,53],[53],[49,44,50,32,48,32,50],[52]] _ (hd.below hal) hr4 (by decide));have HV:=zh (Ar hv1 hal);clear K1 hown hrow hd hr4 hal HPL HPN;go_wp2_with fail;refine KS.out.mono ?_;rintro e w3⟨rfl,hb3⟩;go_wp2;go_ret;exact⟨rfl,Ar HV.out hb3⟩
def X6(l:List (List UInt8))(most:Int):Int:=if J2 l most then 1 else 0
theorem Pc{l:List (List UInt8)}{most:Int}(h:J2 l most=true):X6 l most=1:=by unfold X6;rw[if_pos h]
theorem X7{l:List (List UInt8)}{most:Int}(h:J2 l most=false):X6 l most=0:=by unfold X6;rw[if_neg (by simp[h])]
theorem Lx(a:Option Addr)(n cap:Nat)(l:List (List UInt8))(most:Int)(w:World)(hn:l.length=n)(hr:Ac w a (Ad l))(hc:n≤4611686018427387904) :
 Calls prog 25 #[.slice a n cap,.int .i64 most] w fun e w'=>e=.returned (.int .i64 (X6 l most))∧w=w':=by
 subst hn;have HR:=zh hr;clear hr
 by_cases hm:most<(l.length:Int)
 ·have hb:decide (most<(l.length:Int))=true:=decide_eq_true hm
  have HA:Hid (J2 l most=true):=by unfold Hid J2;rw[hb];rfl
  clear hm;go_enter func25,ntmps25;go_wp2;go_ret;exact⟨by rw[Pc HA.out];rfl,rfl⟩
 ·have hb:decide (most<(l.length:Int))=false:=decide_eq_false hm
  have HA:Hid (J2 l most=l.any (fun s=>decide (150<s.length))):=by unfold Hid J2;rw[hb];rfl
  clear hm;go_enter func25,ntmps25;go_wp2;go_loop [5] (fun i=>∃k:Nat,k≤l.length∧i=.int .i64 k∧Hid ((l.take k).any (fun s=>decide (150<s.length))=false)) (fun i=>l.length-(intOf i).toNat)
  case atStart=>exact⟨0,Nat.zero_le _,rfl,rfl⟩
  case round=>
   obtain⟨k,hk,rfl,hx⟩:=hrel
   by_cases hlt:k<l.length
   ·obtain⟨b,off,rfl,hbl,c0⟩:=Ms HR.out k hlt
    have HT:=zh (Tl l (fun s=>decide (150<s.length)) k hlt);have HM:Hid (l[k]∈l):=List.getElem_mem hlt;have hi0:(0:Int)≤(k:Int):=by omega
    have hi1:(k:Int)<(l.length:Int):=by omega
    generalize l[k]=s at *
    by_cases h1:150<s.length
    ·have h2:decide ((150:Int)<(s.length:Int))=true:=decide_eq_true (by omega)
     have HL:Hid (J2 l most=true):=by
      unfold Hid;rw[HA.out,List.any_eq_true];exact⟨s,HM.out,decide_eq_true h1⟩
     clear h1;go_wp2;go_ret;exact⟨by rw[Pc HL.out];rfl,rfl⟩
    ·have h2:decide ((150:Int)<(s.length:Int))=false:=decide_eq_false (by omega)
     have HL:Hid (decide (150<s.length)=false):=decide_eq_false h1;clear h1;go_wp2;go_round
     case rel=>exact⟨k+1,by omega,by go_num,by unfold Hid;rw[HT.out,hx.out,HL.out];rfl⟩
     case measure=>simp[intOf];omega
   ·obtain rfl:k=l.length:=by omega
    have HZ:Hid (J2 l most=false):=by unfold Hid;rw[HA.out,←hx.out,List.take_length]
    go_wp2;go_ret;exact⟨by rw[X7 HZ.out];rfl,rfl⟩
theorem Wj(c:Nat)(h1:1≤c)(h2:c≤11)(w:World) :
 Calls prog 68 #[.int .i64 (c:Nat)] w fun e w'=>e=.returned (.string ⟨(Dl c).toArray⟩)∧Below w.heap.size w w':=by
 have hc:c=1∨c=2∨c=3∨c=4∨c=5∨c=6∨c=7∨c=8∨c=9∨c=10∨c=11:=by omega
 rcases hc with rfl|rfl|rfl|rfl|rfl|rfl|rfl|rfl|rfl|rfl|rfl
 all_goals
  go_enter func68,ntmps68;go_wp2;go_ret;exact⟨rfl,zb.alloc zl _⟩
theorem Bk.grown{w w':World}{base base' size n:Nat}{Z:RYL}{y:YP}{v:Value}{xs:List Value}(h:Bk w base Z y)(hv:w.ownsRow base' 9 size v n xs)(hg:w.grownBy w' v.ownBlock):Bk w' base Z y:=
 h.typed (S:=fun k=>v.ownBlock=some k) (Fr.grown hg (fun k e=>e)) (fun k _ e=>by
  obtain⟨cur,hk⟩:=Ey hv k e
  exact⟨cur,(0,0),_,hk,by decide⟩)
theorem zD0{w w':World}{base' size n T:Nat}{d:Dk}{v:Value}{xs:List Value}(hv:w.ownsRow base' 9 size v n xs)(h:D4 w T d)(hf:Fr (fun k=>k=T) w w'):w'.ownsRow base' 9 size v n xs:=
 Dh hv hf (fun k cur hk hS=>by
  subst hS;rw[show w.heap[k]?=_ from h] at hk;injection hk with h3;injection h3 with _ e2
  revert e2;decide)
theorem Yl(a:Option Addr)(n cap:Nat)(l:List (List UInt8))(w:World)(hn:l.length=n)(hr:Ac w a (Ad l))(h80:n≤80)(h150:∀s∈l,s.length≤150) :
 Calls prog 27 #[.slice a n cap] w fun e w'=>∃v,e=.returned (.tuple #[v,.int .i64 0])∧w'.ownsRow w.heap.size 9 1 v n (Ad (YP.new.plays Dl l))∧Below w.heap.size w w':=by
 obtain⟨i0,hi,hz0,hz1,hz2⟩:=info_parts Do;have hi':=zh hi;have hz0':=zh hz0;have hz1':=zh hz1;have hz2':=zh hz2;clear hi hz0 hz1 hz2;have hal:Below w.heap.size w (w.alloc (.cells #[.string ⟨#[]⟩,.bool false,.int .i64 (-1)] 31)):=zb.alloc zl _;have hT3:D4 (w.alloc (.cells #[.string ⟨#[]⟩,.bool false,.int .i64 (-1)] 31)) w.heap.size ⟨[],false,-1⟩:=Af.new w _ _;have KRN:=zh (Ot _ _ _ hT3);have KP:=zh (fun(W:World) (Z:RYL) (y:YP) (t:List UInt8) (k:Nat) (dn:List (List UInt8)) (h:Bk W w.heap.size Z y) (hI:Fg k y dn) (hk:k≤100) (ht:t.length≤150)=>zGw w.heap.size Z y t k dn W h hI hk ht);have HR:=zh hr;have HN:=zh hn;have H150:=zh h150;have HAL:=zh hal;have d1:decide ((80:Int)<(n:Int))=false:=decide_eq_false (by omega);clear hr hn h150 hal hT3;go_enter func27,ntmps27;go_wp2_with fail;refine KRN.out.mono ?_;rintro e w1⟨Z,hZT,rfl,hZ,_,hb1⟩;have HZ1:Hid (Bk w1 w.heap.size Z (YP.new.after (l.take 0))):=hZ.weak (by simp);have HT1:Hid (w.heap.size≤Z.T):=by unfold Hid;rw[hZT];exact Nat.le_refl _
 have HV1:=zh (Ar HAL.out hb1);have INV0:Hid (Fg 0 (YP.new.after (l.take 0)) []):=zBt;have HO0:Hid (w1.ownsRow w.heap.size 9 1 (.slice none 0 0) 0 (Ad (YP.new.plays Dl (l.take 0)))):=World.ownsRow_nil _ _ _ _;clear hZ hb1 hZT KRN;go_wp2;go_loopw [4,5,6] (fun m v i wr=>∃(k:Nat) (Z:RYL) (dn:List (List UInt8)),k≤n∧i=.int .i64 k∧m=.pointer (some ⟨Z.yb,0,none⟩)∧Hid (Fg k (YP.new.after (l.take k)) dn)∧Hid (Bk wr w.heap.size Z (YP.new.after (l.take k)))∧Hid (w.heap.size≤Z.T)∧Hid (wr.ownsRow w.heap.size 9 1 v k (Ad (YP.new.plays Dl (l.take k))))∧Hid (Below w.heap.size w wr)) (fun _ _ i _=>n-(intOf i).toNat)
 case atStart=>exact⟨0,Z,[],Nat.zero_le _,rfl,rfl,INV0,HZ1,HT1,HO0,HV1⟩
 case round=>
  clear HZ1 HT1 HV1 INV0 HO0;obtain⟨k,Z,dn,hk,rfl,rfl,inv,hP,hlT,hown,hb⟩:=hrel
  by_cases hlt:k<n
  ·have hkt:k<l.length:=by have:=HN.out;omega
   obtain⟨b,off,rfl,hbl,cw⟩:=Ms HR.out k hkt;have hs150:=H150.out _ (List.getElem_mem hkt);have c0:=(hb.out.cell (p:=⟨b,off+k,none⟩) hbl).trans cw;have hi0:(0:Int)≤(k:Int):=by omega
   have hi1:(k:Int)<(n:Int):=by omega
   have HTK:Hid (l.take (k+1)=l.take k++[l[k]]):=List.take_succ_eq_append_getElem hkt;generalize l[k]=s at *;obtain⟨dn2,hinv2⟩:=inv.out.play (by omega) hs150;have HAF:Hid (YP.new.after (l.take (k+1))=((YP.new.after (l.take k)).play s).1):=by unfold Hid;rw[HTK.out,M6]
   have HPL:Hid (YP.new.plays Dl (l.take (k+1))=YP.new.plays Dl (l.take k)++[Ve Dl ((YP.new.after (l.take k)).play s)]):=by unfold Hid;rw[HTK.out,Nj]
   have INV2:Hid (Fg (k+1) (YP.new.after (l.take (k+1))) dn2):=by unfold Hid;rw[HAF.out];exact hinv2
   have K1:=zh (KP.out wr Z _ s k dn hP.out inv.out (by omega) hs150);have hle:=zB0 (YP.new.after (l.take k)) s;obtain⟨av,cv,rfl⟩:=Aj hown.out;clear inv hinv2 HTK;generalize YP.new.after (l.take k)=y at *;generalize YP.new.plays Dl (l.take k)=outs at *;generalize hpl:y.play s=r at *;obtain⟨y2,ans,er⟩:=r;dsimp only at HAF hle;clear hpl;unfold zHv at K1;go_wp2_with fail;refine K1.out.mono ?_;rintro e w5⟨Z',t,hT5,rfl,ht,hP5,hF5⟩;have hv5:Below w.heap.size w w5:=hb.out.trans (hF5.below hb.out.size (fun j e=>by rw[e];exact hlT.out));have HO5:=zh (zD0 hown.out hP.out.tape hF5);have HP5:=zh hP5;have HLT5:Hid (w.heap.size≤Z'.T):=by unfold Hid;rw[hT5];exact hlT.out
   clear K1 hown hP hb hF5 hP5 c0 hT5 hlT
   by_cases hz:er=0
   ·subst hz
    obtain rfl:=ht rfl;have HPL2:Hid (YP.new.plays Dl (l.take (k+1))=outs++[t]):=by unfold Hid;rw[HPL.out];rfl
    have HO2:=zh (HO5.out.alloc (.cells #[.string ⟨t.toArray⟩] 9));have HW:=zh (Ac.new_at w5 [.string ⟨t.toArray⟩] 9 _ rfl);have hal:Below w5.heap.size w5 (w5.alloc (.cells #[.string ⟨t.toArray⟩] 9)):=zb.alloc zl _;have HV:=zh (Ar hv5 hal);have HP6:=zh (HP5.out.below hal);clear ht HP5 HO5 hv5 hal HPL;go_wp2_with (at_builtin;refine Ag _ rfl (.tmp 37) (.tmp 39) 22 rfl w.heap.size 9 i0 _ 1 16 underlying22 hi'.out hz0'.out hz1'.out hz2'.out rfl (by decide) _ k (Ad outs) rfl HO2.out (some ⟨w5.heap.size,0,none⟩) 1 1 [.string ⟨t.toArray⟩] rfl rfl HW.out ?_ ?_ ?_ ?_ ?_;(simp[Value.oneCell']);(unfold maxLen;omega);(omega);(exact HV.out.size);intro v1 w6 ho1 hg1 hq hm1;clear hq hm1);have hv6:=HV.out.grown hg1 HV.out.size (fun j e=>(HO2.out.lt j e).1);go_roundw
    case rel=>exact⟨k+1,Z',dn2,by omega,by go_num,rfl,INV2,by rw[HAF.out];exact HP6.out.grown HO2.out hg1,HLT5,by rw[HPL2.out,Hr];exact ho1,hv6⟩
    case measure=>simp[intOf];omega
   ·have hx1:1≤er:=by omega
    have K2:=zh (Wj er hx1 hle w5);have hq1:decide ((0:Int)<((er:Nat):Int))=true:=decide_eq_true (by omega);have hq2:decide (0<er)=true:=decide_eq_true (by omega);have HPL2:Hid (YP.new.plays Dl (l.take (k+1))=outs++[Dl er]):=by unfold Hid;rw[HPL.out];unfold Ve;rw[if_neg hz]
    generalize Dl er=tx at *;clear ht HPL hz;go_wp2_with fail;refine K2.out.mono ?_;rintro e w6⟨rfl,hb6⟩;have hv6:=Ar hv5 hb6;have HO6:=zh (Cb HO5.out hb6);have HP6:=zh (HP5.out.below hb6);have HO2:=zh (HO6.out.alloc (.cells #[.string ⟨tx.toArray⟩] 9));have HW:=zh (Ac.new_at w6 [.string ⟨tx.toArray⟩] 9 _ rfl);have hal:Below w6.heap.size w6 (w6.alloc (.cells #[.string ⟨tx.toArray⟩] 9)):=zb.alloc zl _;have HV:=zh (Ar hv6 hal);have HP7:=zh (HP6.out.below hal);clear K2 hv5 hv6 hal HP5 HO5 HO6 HP6 hb6;go_wp2_with (at_builtin;refine Ag _ rfl (.tmp 37) (.tmp 39) 22 rfl w.heap.size 9 i0 _ 1 16 underlying22 hi'.out hz0'.out hz1'.out hz2'.out rfl (by decide) _ k (Ad outs) rfl HO2.out (some ⟨w6.heap.size,0,none⟩) 1 1 [.string ⟨tx.toArray⟩] rfl rfl HW.out ?_ ?_ ?_ ?_ ?_;(simp[Value.oneCell']);(unfold maxLen;omega);(omega);(exact HV.out.size);intro v1 w7 ho1 hg1 hq hm1;clear hq hm1);have hv7:=HV.out.grown hg1 HV.out.size (fun j e=>(HO2.out.lt j e).1);go_roundw
    case rel=>exact⟨k+1,Z',dn2,by omega,by go_num,rfl,INV2,by rw[HAF.out];exact HP7.out.grown HO2.out hg1,HLT5,by rw[HPL2.out,Hr];exact ho1,hv7⟩
    case measure=>simp[intOf];omega
  ·obtain rfl:k=n:=by omega
   obtain⟨av,cv,rfl⟩:=Aj hown.out;have HL:Hid (l.take k=l):=by unfold Hid;rw[←HN.out,List.take_length]
   rw[HL.out] at hown;clear inv hP;go_wp2;go_ret2;exact⟨_,rfl,hown.out,hb.out⟩
theorem zFw(l:List (List UInt8)):(Ad l).length=l.length:=by simp[Ad]
theorem zFx(l:List (List UInt8)):∀u∈Ad l,u.oneCell'=true:=by
 intro u hu;obtain⟨s,_,rfl⟩:=List.mem_map.1 hu;rfl
theorem Qy(ea:Nat→Addr)(a:Option Addr)(n cap:Nat)(l:List (List UInt8))(w:World)(hG:E6 w ea)(hT:Bf w)(hX:Kd Dl ea w)
 (hn:l.length=n) (hr:Ac w a (Ad l)) (hl:J2 l 60=false) :
 Calls prog 5 #[.slice a n cap] w fun e w'=>e=.returned (.bool true)∧Below w.heap.size w w':=by
 obtain⟨h60,h150⟩:=zC1 hl;obtain⟨i0,hi,hz0,hz1,hz2⟩:=info_parts Do;have hi':=zh hi;have hz0':=zh hz0;have hz1':=zh hz1;have hz2':=zh hz2;clear hi hz0 hz1 hz2;have K0:=zh (Uq Dl ea w hG hT hX);have KL:=zh (fun(W:World) (hb:Below w.heap.size w W)=>Lx a n cap l 60 W hn (hr.below hb) (by omega));rw[X7 hl] at KL;rw[hn] at h60;have KR:=zh (fun(W:World) (av:Option Addr) (cv:Nat) (hb:Below w.heap.size w W) (hrr:Ac W av (Ad l))=>Yu Dl ea av n cv l W (hG.below hb) (hT.below hb) (hX.below hb) hn hrr (by omega) h150);have KO:=zh (fun(W:World) (hb:Below w.heap.size w W)=>Yl a n cap l W hn (hr.below hb) (by omega) h150);have KC:=zh (fun(W:World) (hb:Below w.heap.size w W)=>Zo ea (Bm ea 0) 0 0 W (hG.below hb) (Bg.bare ea W 0) (by decide) rfl);rw[Al] at KC;have HR:=zh (fun(W:World) (hb:Below w.heap.size w W)=>hr.below hb);have HN:=zh hn;clear hG hT hX hr hn hl h150;go_enter func5,ntmps5;go_wp2_with fail;refine K0.out.mono ?_;rintro e w1⟨rfl,hb1⟩;have K1:=zh (KL.out w1 hb1);go_wp2_with fail;refine K1.out.mono ?_;rintro e w2⟨rfl,rfl⟩;have HB1:=zh hb1;clear K0 K1 KL;go_wp2_with (at_builtin;refine Ag _ rfl (.tmp 19) (.tmp 20) 22 rfl w1.heap.size 9 i0 _ 1 16 underlying22 hi'.out hz0'.out hz1'.out hz2'.out rfl (by decide) (.slice none 0 0) 0 [] rfl (World.ownsRow_nil _ _ _ _) a n cap (Ad l) rfl ?_ ?_ ?_ ?_ ?_ ?_ ?_;(rw[zFw,HN.out];omega);(exact HR.out _ HB1.out);(exact zFx _);(unfold maxLen;omega);(omega);(exact Nat.le_refl _);intro v3 w3 ho3 hg3 hq hm3;clear hq hm3;rw[List.nil_append,Nat.zero_add] at ho3);have hb3:Below w1.heap.size w1 w3:=(Below.refl w1.heap.size w1).grown hg3 zl (fun j e=>by simp[Value.ownBlock] at e);obtain⟨a3,c3,rfl⟩:=Aj ho3;have hv3:=Ar HB1.out hb3;have K3:=zh (KR.out w3 a3 c3 hv3 (Ac.owned ho3).1);clear ho3 hg3 hb3;go_wp2_with fail;refine K3.out.mono ?_;rintro e w4⟨va,rfl,ho4,hb4⟩;have hv4:=Ar hv3 hb4;obtain⟨a4,c4,rfl⟩:=Aj ho4;have HR4:=zh (Ac.owned ho4).1;have HV4:=zh hv4;have K4:=zh (KO.out w4 hv4);clear K3 ho4 hv3 hb4 hv4;go_wp2_with fail;refine K4.out.mono ?_;rintro e w5⟨vb,rfl,ho5,hb5⟩;have hv5:=Ar HV4.out hb5;obtain⟨a5,c5,rfl⟩:=Aj ho5;have HR5:=zh (Ac.owned ho5).1;have HR4':=zh (HR4.out.below hb5);have K5:=zh (KC.out w5 hv5);have HV5:=zh hv5;clear K4 ho5 hb5 hv5;go_wp2_with fail;refine K5.out.mono ?_;rintro e w6⟨rfl,hb6⟩;have hlen:(YP.new.plays Dl l).length=n:=by rw[Pg,HN.out]
 have K6:=zh (Vf a4 a5 c4 c5 (YP.new.plays Dl l) w6 (HR4'.out.below hb6) (HR5.out.below hb6) (by rw[hlen];omega));rw[hlen] at K6;have HV6:=zh (Ar HV5.out hb6);clear K5 hb6 hlen;go_wp2_with fail;refine K6.out.mono ?_;rintro e w7⟨rfl,hb7⟩;go_wp2;go_ret;exact⟨rfl,Ar HV6.out hb7⟩
theorem Po(ea:Nat→Addr)(a:Option Addr)(n cap:Nat)(l:List (List UInt8))(w:World)(hGS:E6 w ea∧Kd Dl ea w)(hT:Bf w)
 (hn:l.length=n) (hr:Ac w a (Ad l)) (_hcap:n≤cap) (hm:n≤4611686018427387904) :
 Calls prog 5 #[.slice a n cap] w fun e w'=>e=.returned (.bool true)∧Below w.heap.size w w':=by
 obtain⟨hG,hX⟩:=hGS
 cases hl:J2 l 60
 ·exact Qy ea a n cap l w hG hT hX hn hr hl
 ·have K0:=zh (Uq Dl ea w hG hT hX)
  have KL:=zh (fun(W:World) (hb:Below w.heap.size w W)=>Lx a n cap l 60 W hn (hr.below hb) hm);rw[Pc hl] at KL;clear hG hT hX hn hr hl;go_enter func5,ntmps5;go_wp2_with fail;refine K0.out.mono ?_;rintro e w1⟨rfl,hb1⟩;have K1:=zh (KL.out w1 hb1);go_wp2_with fail;refine K1.out.mono ?_;rintro e w2⟨rfl,rfl⟩;go_wp2;go_ret;exact⟨rfl,hb1⟩
end Go.Proofs.YtppfkokfnoeopaaGreatDoor
namespace Go.Proofs.YtppfkokfnoeopaaGreatDoor
open Go.ChangeShapes Go.WideShapes Go.ChangeAt Go.WideElems Go.RowKit
theorem zF5{W:World}{ea:Nat→Addr}(hE:Fs W)
 (H:∀k∈[1,2,3,4,5,6,7,8,9,10,11],gOf k<W.heap.size∧W.cell? ⟨gOf k,0,none⟩=some (.iface 346 (.pointer (some (ea k))))∧(∃c t,W.heap[(ea k).block]?=some (.cells c t (0,0)))∧∃s,W.cell? (ea k)=some (.string s)∧s.data.toList=Dl k):E6 W ea∧Kd Dl ea W:=
 ⟨zF4 hE H,fun k h1 h2=>by
  obtain⟨_,_,⟨c,t,hb⟩,s,hc,hs⟩:=H k (by simp;omega);refine⟨(Array.getElem?_eq_some_iff.1 hb).1,?_⟩
  rw[hc,←hs]⟩
end Go.Proofs.YtppfkokfnoeopaaGreatDoor
