/- A part of a proof. -/
import Derived.Test.YtppfkokfnoeopaaGreatDoorSTapeAct
import Derived.Test.YtppfkokfnoeopaaGreatDoorSRefCrew
set_option maxRecDepth 400000
set_option maxHeartbeats 6400000
namespace Go.Proofs.YtppfkokfnoeopaaGreatDoor
open Go.RowKit Go.Proofs.Tryz
def D4(w:World)(T:Nat)(s:Dk):Prop:=Af w T 31 #[.string ⟨s.b.toArray⟩,.bool s.off,.int .i64 s.cut]
theorem Dm{a b c:World}{row:Option Nat}(h:a.grownBy b row)(k:b.grownBy c row):a.grownBy c row:=
 ⟨k.os.trans h.os,k.tape.trans h.tape,k.output.trans h.output,Nat.le_trans h.size k.size,fun i hi hne=>(k.block i (Nat.lt_of_lt_of_le hi h.size) hne).trans (h.block i hi hne)⟩
theorem Ua(s:List UInt8)(w:World)(hs:s.length≤100000) :
 Calls prog 19 #[.string ⟨s.toArray⟩] w fun e w'=>e=.returned (.string ⟨(A7 s).toArray⟩)∧Below w.heap.size w w':=by
 have KI:=zh (Cp (s.length:Nat) w (by omega));have hl:=Na s.length (by omega);rw[zB4];generalize Lib.itoa ((s.length:Nat):Int)=t at *;have a1:=Gg t [58] (by simp;omega);have a2:=Gg (t++[58]) s (by simp;omega);have a3:=Gg (t++[58]++s) [10,46] (by simp;omega);go_enter func19,ntmps19;go_wp2_with fail;refine KI.out.mono ?_;rintro e w1⟨rfl,hb⟩;go_wp2;go_ret;refine⟨?_,hb⟩
 show Ending.returned (.string ((⟨(t++58::s).toArray⟩:ByteArray)++⟨[10,46].toArray⟩))=_
 rw[Ba];simp
theorem Yo(T:Nat)(s:Dk)(n:Int)(w:World)(hT:D4 w T s) :
 Calls prog 112 #[.pointer (some ⟨T,0,none⟩),.int .i64 n] w fun e w'=>e=.returned (.int .i64 (Gx s n).2)∧D4 w' T (Gx s n).1∧w.grownBy w' (some T):=by
 obtain⟨b,o,c⟩:=s;have hK:Af w T 31 #[.string ⟨b.toArray⟩,.bool o,.int .i64 c]:=hT;have c1:=hK.cell 1 rfl;have c2:=hK.cell 2 rfl;have q2:=hK.frozen 2
 by_cases h:n<0
 ·have hF:Gx ⟨b,o,c⟩ n=(⟨b,o,c⟩,2):=by rw[Gx,if_pos h]
  rw[hF];go_enter func112,ntmps112;go_wp2;go_ret;exact⟨rfl,hT,World.grownBy.refl _ _⟩
 ·have hd:decide (n<0)=false:=decide_eq_false h
  cases o
  ·have hF:Gx ⟨b,false,c⟩ n=(⟨b,false,n⟩,0):=by rw[Gx,if_neg h];rfl
   rw[hF];go_enter func112,ntmps112;go_wp2;go_ret;exact⟨rfl,by have:=hK.set 2 (.int .i64 n);simpa[D4] using this,Br _ _ _ _⟩
  ·have hF:Gx ⟨b,true,c⟩ n=(⟨b,true,c⟩,11):=by rw[Gx,if_neg h];rfl
   rw[hF];go_enter func112,ntmps112;go_wp2;go_ret;exact⟨rfl,hT,World.grownBy.refl _ _⟩
theorem Sy(T:Nat)(s:Dk)(t:List UInt8)(w:World)(hT:D4 w T s)(ht:t.length≤100000)(hbl:s.b.length≤262144)(hc : -9223372036854775808≤s.cut∧s.cut≤9223372036854775807) :
 Calls prog 44 #[.pointer (some ⟨T,0,none⟩),.string ⟨t.toArray⟩] w fun e w'=>e=.returned (.int .i64 (apF s t).2)∧D4 w' T (apF s t).1∧w.grownBy w' (some T):=by
 have KR:=zh (Ua t w ht);have hrl:=Mp t (by omega);obtain⟨b,o,c⟩:=s;have hbl:b.length≤262144:=hbl;have hc : -9223372036854775808≤c∧c≤9223372036854775807:=hc;have hK:Af w T 31 #[.string ⟨b.toArray⟩,.bool o,.int .i64 c]:=hT
 by_cases h1:4000<t.length
 ·have hF:apF ⟨b,o,c⟩ t=(⟨b,o,c⟩,2):=by rw[apF,if_pos h1]
  rw[hF];have d1:decide ((4000:Int)<(t.length:Int))=true:=decide_eq_true (by omega);clear KR;go_enter func44,ntmps44;go_wp2;go_ret;exact⟨rfl,hT,World.grownBy.refl _ _⟩
 ·have d1:decide ((4000:Int)<(t.length:Int))=false:=decide_eq_false (by omega)
  by_cases h2:262144<b.length+(A7 t).length
  ·have hF:apF ⟨b,o,c⟩ t=(⟨b,o,c⟩,7):=by rw[apF,if_neg h1,if_pos h2]
   rw[hF];generalize A7 t=r at *;have d2:decide ((262144:Int)<(b.length:Int)+(r.length:Int))=true:=decide_eq_true (by omega);go_enter func44,ntmps44;go_wp2_with fail;refine KR.out.mono ?_;rintro e w1⟨rfl,hb1⟩;have hK1:=hK.kept hb1;have c0:=hK1.cell 0 rfl;go_wp2;go_ret;exact⟨rfl,hK1,Bw hb1 _⟩
  ·have hF:apF ⟨b,o,c⟩ t=wrF ⟨b,o,c⟩ (A7 t):=by rw[apF,if_neg h1,if_neg h2]
   rw[hF];generalize A7 t=r at *;have d2:decide ((262144:Int)<(b.length:Int)+(r.length:Int))=false:=decide_eq_false (by omega)
   cases o
   ·by_cases h0:0≤c
    ·have d3:decide (0≤c)=true:=decide_eq_true h0
     by_cases h3:c<r.length
     ·have hW:wrF ⟨b,false,c⟩ r=(⟨b++r.take c.toNat,true,c⟩,11):=by rw[wrF];simp[h0,h3]
      rw[hW];have d4:decide (c<(r.length:Int))=true:=decide_eq_true h3
      have hx:∀W:World,(Instr.slice 9 (.string ⟨r.toArray⟩) none (some (.int .i64 c)) none).run prog W=.ok (.string ⟨(r.take c.toNat).toArray⟩) W:=fun W=>by
       rw[run_slice_string_h W 9 ⟨r.toArray⟩ underlying9 .i64 c h0 (by show c≤(r.length:Int);omega)]
       congr 2
       apply ByteArray.ext;apply Array.ext';simp
      have a1:=Gg b (r.take c.toNat) (by rw[List.length_take];omega);generalize r.take c.toNat=rt at *;go_enter func44,ntmps44;go_wp2_with fail;refine KR.out.mono ?_;rintro e w1⟨rfl,hb1⟩;have hK1:=hK.kept hb1;have c0:=hK1.cell 0 rfl;have c1:=hK1.cell 1 rfl;have c2:=hK1.cell 2 rfl;have q0:=hK1.frozen 0;have q1:=hK1.frozen 1;go_wp2;go_region
      all_goals
       go_wp2;go_ret;refine⟨rfl,?_,Dm (Bw hb1 _) (Dm (Dm (Bw (Ab (Below.refl w1.heap.size w1) 1) (some T)) (Br _ _ _ _)) (Br _ _ _ _))⟩;have h5:=(hK1.set 0 (.string ⟨(b++rt).toArray⟩)).set 1 (.bool true);have h6:Af ((w1.setCell ⟨T,0,none⟩ (.string ⟨(b++rt).toArray⟩)).setCell ⟨T,1,none⟩ (.bool true)) T 31 #[.string ⟨(b++rt).toArray⟩,.bool true,.int .i64 c]:=by simpa using h5
       exact h6
     ·have hW:wrF ⟨b,false,c⟩ r=(⟨b++r,false,c-r.length⟩,0):=by rw[wrF];simp[h0,h3]
      rw[hW];have d4:decide (c<(r.length:Int))=false:=decide_eq_false h3;have a1:=Gg b r (by omega);go_enter func44,ntmps44;go_wp2_with fail;refine KR.out.mono ?_;rintro e w1⟨rfl,hb1⟩;have hK1:=hK.kept hb1;have c0:=hK1.cell 0 rfl;have c1:=hK1.cell 1 rfl;have c2:=hK1.cell 2 rfl;have q0:=hK1.frozen 0;have q2:=hK1.frozen 2;go_wp2;go_ret;refine⟨rfl,?_,Dm (Bw hb1 _) (Dm (Br _ _ _ _) (Br _ _ _ _))⟩;have:=(hK1.set 2 (.int .i64 (c-r.length))).set 0 (.string ⟨(b++r).toArray⟩);simpa[D4] using this
    ·have d3:decide (0≤c)=false:=decide_eq_false h0
     have hW:wrF ⟨b,false,c⟩ r=(⟨b++r,false,c⟩,0):=by rw[wrF];simp[h0]
     rw[hW];have a1:=Gg b r (by omega);go_enter func44,ntmps44;go_wp2_with fail;refine KR.out.mono ?_;rintro e w1⟨rfl,hb1⟩;have hK1:=hK.kept hb1;have c0:=hK1.cell 0 rfl;have c1:=hK1.cell 1 rfl;have c2:=hK1.cell 2 rfl;have q0:=hK1.frozen 0;go_wp2;go_ret;refine⟨rfl,?_,Dm (Bw hb1 _) (Br _ _ _ _)⟩;have:=hK1.set 0 (.string ⟨(b++r).toArray⟩);simpa[D4] using this
   ·have hW:wrF ⟨b,true,c⟩ r=(⟨b,true,c⟩,11):=by rw[wrF];rfl
    rw[hW];go_enter func44,ntmps44;go_wp2_with fail;refine KR.out.mono ?_;rintro e w1⟨rfl,hb1⟩;have hK1:=hK.kept hb1;have c0:=hK1.cell 0 rfl;have c1:=hK1.cell 1 rfl;go_wp2;go_ret;exact⟨rfl,hK1,Bw hb1 _⟩
theorem zF7{c:List UInt8}{j:Nat}(h:j<(A9 c).length)(hj:j<c.length):c[j]≠58:=by
 have hp:A9 c <+: c:=List.takeWhile_prefix _
 have e:(A9 c)[j]=c[j]:=by
  obtain⟨r,hr⟩:=hp;have h2:(A9 c++r)[j]'(by rw[hr];exact hj)=(A9 c)[j]:=List.getElem_append_left h;rw[←h2]
  congr 1
 intro e2;have hm:(58:UInt8)∈A9 c:=by rw[←e2,←e];exact List.getElem_mem h
 exact Xz c hm
theorem Z1{c:List UInt8}(h:(A9 c).length<c.length):c[(A9 c).length]=58:=by
 have e:=Up h;have h2:(A9 c++58::Dv c)[(A9 c).length]'(by simp)=58:=by simp
 have h3:c[(A9 c).length]?=some 58:=by
  rw[List.getElem?_eq_getElem h];have:(A9 c++58::Dv c)[(A9 c).length]?=some 58:=by simp
  rw[←this,←e];exact(List.getElem?_eq_getElem h).symm
 rw[List.getElem?_eq_getElem h] at h3;exact Option.some.inj h3
theorem Mq(b:List UInt8)(i:Int)(q:Nat)(hi:i=q)(hq:q<b.length)(W:World):(Instr.index 9 (.string ⟨b.toArray⟩) (.int .i64 i)).run prog W=.ok (.int .u8 (b[q].toNat:Nat)) W:=by
 subst hi;have hsz:(⟨b.toArray⟩:ByteArray).size=b.length:=rfl;rw[run_index_string W 9 ⟨b.toArray⟩ .i64 (q:Int) underlying9,dif_pos ⟨by omega,by rw[hsz];omega⟩]
 rfl
theorem Wp(b:List UInt8)(i j:Int)(f k:Nat)(hi:i=f)(hj:j=k)(hfk:f≤k)(hk:k≤b.length)(W:World):(Instr.slice 9 (.string ⟨b.toArray⟩) (some (.int .i64 i)) (some (.int .i64 j)) none).run prog W=.ok (.string ⟨((b.drop f).take (k-f)).toArray⟩) W:=by
 subst hi hj;rw[run_slice_string (P:=prog) (w:=W) 9 ⟨b.toArray⟩ .i64 .i64 f k underlying9 (by omega) (by omega) (by show(k:Int)≤(b.length:Int);omega),M7]
 rfl
theorem zFm{r:List UInt8}{n:Nat}(h:n+2≤r.length):(r.drop n).take 2=[r[n],r[n+1]]:=by
 rw[List.drop_eq_getElem_cons (by omega),List.take_succ_cons,List.drop_eq_getElem_cons (by omega),List.take_succ_cons,List.take_zero]
theorem Wo(b:List UInt8)(l:List (List UInt8))(hP:H5 b l)(w:World)(hs:b.length≤100000) :
 Calls prog 110 #[.string ⟨b.toArray⟩] w fun e w'=>∃v,e=.returned (.tuple #[v,.int .i64 ((l.flatMap A7).length:Nat)])∧w'.ownsRow w.heap.size 9 1 v l.length (Ad l)∧Below w.heap.size w w':=by
 obtain⟨i0,hi,hz0,hz1,hz2⟩:=info_parts Do;have hi':=zh hi;have hz0':=zh hz0;have hz1':=zh hz1;have hz2':=zh hz2;obtain⟨hlen,r,hb,hr⟩:=hP
 have HA:Hid (∀k,((l.take k).flatMap A7).length≤b.length):=fun k=>by
  conv=>rhs;rw[hb,←List.take_append_drop k l]
  rw[List.flatMap_append,List.append_assoc,List.length_append];omega
 have HD:Hid (∀k,b.drop ((l.take k).flatMap A7).length=(l.drop k).flatMap A7++r):=fun k=>by
  conv=>lhs;rw[hb,←List.take_append_drop k l]
  rw[List.flatMap_append,List.append_assoc,List.take_append_drop,List.drop_left]
 have HL:=zh hlen;have HE:=zh hr
 have hll:l.length≤300000:=by
  have h1:=Rs l;have h2:=congrArg List.length hb;rw[List.length_append] at h2;omega
 have KN:=zh (fun(d:List UInt8) (W:World) (h:d.length≤100000)=>D8 d W h);clear hi hz0 hz1 hz2 hb hr hlen;go_enter func110,ntmps110;go_wp2;go_loopw [4,5] (fun v i wr=>∃k:Nat,k≤l.length∧i=.int .i64 (((l.take k).flatMap A7).length:Nat)∧wr.ownsRow w.heap.size 9 1 v k (Ad (l.take k))∧Below w.heap.size w wr) (fun _ i _=>b.length+1-(intOf i).toNat)
 case atStart=>exact⟨0,Nat.zero_le _,rfl,World.ownsRow_nil _ _ _ _,Below.refl _ _⟩
 case round=>
  obtain⟨k,hk,rfl,hown,hbw⟩:=hrel;have hA:=HA.out k;have hcd:=HD.out k;have hclen:(b.drop ((l.take k).flatMap A7).length).length=b.length-((l.take k).flatMap A7).length:=by simp
  have hHle:=zF6 (b.drop ((l.take k).flatMap A7).length);generalize hAq:((l.take k).flatMap A7).length=A at *;have HAQ:=zh hAq;clear hAq
  have HNE:Hid (∀q,(hq:q<b.length)→A≤q→q<A+(A9 (b.drop A)).length→b[q]≠58):=fun q hq h1 h2=>by
   have h3:=zF7 (c:=b.drop A) (j:=q-A) (by omega) (by omega);rw[List.getElem_drop] at h3;simpa[show A+(q-A)=q by omega] using h3
  have HEQ:Hid (∀hq:A+(A9 (b.drop A)).length<b.length,b[A+(A9 (b.drop A)).length]=58):=fun hq=>by
   have h3:=Z1 (c:=b.drop A) (by omega);rw[List.getElem_drop] at h3;exact h3
  have HC:=zh hcd;clear hcd;generalize hHq:(A9 (b.drop A)).length=H at *;have HHQ:=zh hHq;clear hHq;go_wp2;go_loop [6] (fun i=>∃q:Nat,A≤q∧q≤A+H∧i=.int .i64 (q:Nat)) (fun i=>b.length+1-(intOf i).toNat)
  case atStart=>exact⟨A,Nat.le_refl _,by omega,rfl⟩
  case round=>
   obtain⟨q,hq1,hq2,rfl⟩:=hrel
   by_cases hlt:q<A+H
   ·have hqb:q<b.length:=by omega
    have hne:=HNE.out q hqb hq1 hlt;have hx:(⟨b.toArray⟩:ByteArray)[q]'(by simpa[ByteArray.size] using hqb)=b[q]:=rfl;have hcn:b[q].toNat≠(58:UInt8).toNat:=fun e=>hne (UInt8.toNat_inj.1 e)
    have hcb:((b[q].toNat:Int) != 58)=true:=by simp at hcn ⊢;omega
    generalize b[q]=y at *;go_wp2;go_round
    case rel=>exact⟨q+1,by omega,by omega,by go_num⟩
    case measure=>simp[intOf];omega
   ·have hqe:q=A+H:=by omega
    have hqle:q≤b.length:=by omega
    have HQE:=zh hqe
    have hrl:(Dv (b.drop A)).length=b.length-q-1:=by
     rw[Dv,HHQ.out,List.length_drop,List.length_drop];omega
    have hrc:Dv (b.drop A)=b.drop (q+1):=by rw[Dv,HHQ.out,List.drop_drop,hqe];congr 1
    have hsl1:=fun W:World=>Wp b A q A q rfl rfl (by omega) hqle W
    have hd1:(b.drop A).take (q-A)=A9 (b.drop A):=by
     rw[show q-A=(A9 (b.drop A)).length by rw[HHQ.out];omega];exact(List.prefix_iff_eq_take.1 (List.takeWhile_prefix _)).symm
    rw[hd1] at hsl1;have hdl:(A9 (b.drop A)).length≤100000:=by rw[HHQ.out];omega
    have K1:=zh (fun W:World=>KN.out (A9 (b.drop A)) W hdl)
    have h58:∀hq:q<b.length,b[q]=58:=fun hq=>by
     have:=HEQ.out (by omega);simpa[hqe] using this
    clear hd1 hq1 hq2 hlt hqe
    by_cases hkl:k<l.length
    ·have hsl:=HL.out _ (List.getElem_mem hkl)
     have hcd:b.drop A=A7 l[k]++((l.drop (k+1)).flatMap A7++r):=by rw[HC.out,List.drop_eq_getElem_cons hkl,List.flatMap_cons,List.append_assoc]
     have hh:A9 (b.drop A)=Lib.itoa (l[k].length:Nat):=by rw[hcd];exact Mg _ _
     have hrr:b.drop (q+1)=l[k]++[10,46]++((l.drop (k+1)).flatMap A7++r):=by rw[←hrc,hcd];exact Vd _ _
     have hlen2:l[k].length+2≤b.length-q-1:=by
      have:=congrArg List.length hrr;rw[List.length_drop,List.length_append,List.length_append] at this;simp at this;omega
     have hqb:q<b.length:=by omega
     have hn:Ah (A9 (b.drop A))=(l[k].length:Nat)∧Aw (A9 (b.drop A))=true:=by
      have:=U2 (n:=l[k].length) (by omega);rw[Ah,Aw,hh,this];exact⟨rfl,rfl⟩
     rw[hn.1,hn.2] at K1;have hsl2:=fun W:World=>Wp b ((q:Int)+1) ((q:Int)+1+(l[k].length:Nat)) (q+1) (q+1+l[k].length) (by omega) (by omega) (by omega) (by omega) W
     have hsx:(b.drop (q+1)).take (q+1+l[k].length-(q+1))=l[k]:=by
      rw[hrr,show q+1+l[k].length-(q+1)=l[k].length by omega,List.append_assoc,List.take_left]
     rw[hsx] at hsl2;have hi1:=fun W:World=>Mq b ((q:Int)+1+(l[k].length:Nat)) (q+1+l[k].length) (by omega) (by omega) W
     have hi2:=fun W:World=>Mq b ((q:Int)+2+(l[k].length:Nat)) (q+2+l[k].length) (by omega) (by omega) W
     have hv1:b[q+1+l[k].length]'(by omega)=10:=by
      have e1:(b.drop (q+1))[l[k].length]?=some 10:=by rw[hrr,List.append_assoc];simp
      rw[List.getElem?_drop,List.getElem?_eq_getElem (by omega)] at e1;exact Option.some.inj e1
     have hv2:b[q+2+l[k].length]'(by omega)=46:=by
      have e1:(b.drop (q+1))[l[k].length+1]?=some 46:=by rw[hrr,List.append_assoc];simp
      rw[List.getElem?_drop] at e1;rw[show q+1+(l[k].length+1)=q+2+l[k].length by omega,List.getElem?_eq_getElem (by omega)] at e1;exact Option.some.inj e1
     rw[hv1,show(((10:UInt8).toNat:Nat):Int)=10 from rfl] at hi1;rw[hv2,show(((46:UInt8).toNat:Nat):Int)=46 from rfl] at hi2;have hi0:=fun W:World=>Mq b (q:Int) q rfl hqb W
     rw[h58 hqb,show(((58:UInt8).toNat:Nat):Int)=58 from rfl] at hi0;have ht:l.take (k+1)=l.take k++[l[k]]:=List.take_succ_eq_append_getElem hkl
     have hnl:((l.take (k+1)).flatMap A7).length=q+3+l[k].length:=by
      have hq2:=HQE.out;rw[ht,List.flatMap_append,List.length_append,HAQ.out,List.flatMap_cons,List.flatMap_nil,List.append_nil,A7,←hh];rw[List.length_append,HHQ.out];simp;omega
     have HN:=zh hnl;have HT:=zh ht;have d0:decide ((q:Int)<(b.length:Int))=true:=decide_eq_true (by omega);have d1:((q:Int)==(b.length:Int))=false:=by simp;omega
     have d4:decide ((4000:Int)<(l[k].length:Int))=false:=decide_eq_false (by omega);have d5:decide ((b.length:Int)-(q:Int)-1<(l[k].length:Int)+2)=false:=decide_eq_false (by omega);clear hcd hh hrr hrc hrl hn hsx hv1 hv2 h58 ht hnl;generalize l[k]=s at *;generalize A9 (b.drop A)=d at *;have HO2:=zh (hown.alloc (.cells #[.string ⟨s.toArray⟩] 9));have HW:=zh (Ac.new_at wr [.string ⟨s.toArray⟩] 9 _ rfl);have HV:=zh (hbw.alloc hbw.size (.cells #[.string ⟨s.toArray⟩] 9));clear hown;go_wp2_with fail;refine(K1.out _).mono ?_;rintro e w2⟨rfl,rfl⟩;go_wp2_with (at_builtin;refine Ag _ rfl (.tmp 85) (.tmp 87) 22 rfl w.heap.size 9 i0 _ 1 16 underlying22 hi'.out hz0'.out hz1'.out hz2'.out rfl (by decide) _ k (Ad (l.take k)) rfl HO2.out (some ⟨wr.heap.size,0,none⟩) 1 1 [.string ⟨s.toArray⟩] rfl rfl HW.out ?_ ?_ ?_ ?_ ?_;(simp[Value.oneCell']);(unfold maxLen;omega);(omega);(exact HV.out.size);intro v1 w5 ho1 hg1 hq hm1;clear hq hm1);have hv5:=HV.out.grown hg1 HV.out.size (fun j e=>(HO2.out.lt j e).1);go_roundw
     case rel=>exact⟨k+1,by omega,by rw[HN.out];go_num,by rw[HT.out,Hr];exact ho1,hv5⟩
     case measure=>have:=HQE.out;simp[intOf];omega
    ·obtain rfl:k=l.length:=by omega
     have ho:Iu (b.drop A)=none:=by rw[HC.out,List.drop_length];exact HE.out
     have hAl:A=(l.flatMap A7).length:=by have:=HAQ.out;rw[List.take_length] at this;exact this.symm
     have HAL:=zh hAl;rw[List.take_length] at hown;clear hAl HAQ
     by_cases hqb:q<b.length
     ·have hi0:=fun W:World=>Mq b (q:Int) q rfl hqb W
      rw[h58 hqb,show(((58:UInt8).toNat:Nat):Int)=58 from rfl] at hi0;have d0:decide ((q:Int)<(b.length:Int))=true:=decide_eq_true (by omega);have d1:((q:Int)==(b.length:Int))=false:=by simp;omega
      have hcl:(A9 (b.drop A)).length<(b.drop A).length:=by have hq2:=HQE.out;rw[HHQ.out,List.length_drop];omega
      have hoo:Iu (b.drop A)=match Cl (A9 (b.drop A)) with
       | some n=>if 0≤n∧n≤4000∧n.toNat+2≤(Dv (b.drop A)).length∧((Dv (b.drop A)).drop n.toNat).take 2=[10,46] then some ((Dv (b.drop A)).take n.toNat) else none
       | none=>none:=by rw[Iu,if_pos hcl];rfl
      cases hf:Cl (A9 (b.drop A)) with
      | none=>
       have hn:Ah (A9 (b.drop A))=0∧Aw (A9 (b.drop A))=false:=by rw[Ah,Aw,hf];exact⟨rfl,rfl⟩
       rw[hn.1,hn.2] at K1;clear hoo ho hf hn hcl h58 hrc hrl;generalize A9 (b.drop A)=d at *;go_wp2_with fail;refine(K1.out _).mono ?_;rintro e w2⟨rfl,rfl⟩;go_wp2;go_ret2;exact⟨_,by first|rfl|(rw[←HAL.out];rfl)|(rw[HAL.out,List.length_flatMap];rfl),hown,hbw⟩
      | some m=>
       have hn:Ah (A9 (b.drop A))=m∧Aw (A9 (b.drop A))=true:=by rw[Ah,Aw,hf];exact⟨rfl,rfl⟩
       rw[hn.1,hn.2] at K1;rw[hf] at hoo;dsimp only at hoo;rw[ho] at hoo;have hmb:=(D7 _ _).1 hf;have hm1:=hmb.2;clear hmb hn hf;generalize A9 (b.drop A)=d at *
       by_cases h0:m<0
       ·have d2:decide (m<0)=true:=decide_eq_true h0
        clear hoo ho h58 hrc hrl hcl;go_wp2_with fail;refine(K1.out _).mono ?_;rintro e w2⟨rfl,rfl⟩;go_wp2;go_ret2;exact⟨_,by first|rfl|(rw[←HAL.out];rfl)|(rw[HAL.out,List.length_flatMap];rfl),hown,hbw⟩
       ·have d2:decide (m<0)=false:=decide_eq_false h0
        by_cases h4:4000<m
        ·have d4:decide (4000<m)=true:=decide_eq_true h4
         clear hoo ho h58 hrc hrl hcl;go_wp2_with fail;refine(K1.out _).mono ?_;rintro e w2⟨rfl,rfl⟩;go_wp2;go_ret2;exact⟨_,by first|rfl|(rw[←HAL.out];rfl)|(rw[HAL.out,List.length_flatMap];rfl),hown,hbw⟩
        ·have d4:decide (4000<m)=false:=decide_eq_false h4
         by_cases h5:(b.length:Int)-(q:Int)-1<m+2
         ·have d5:decide ((b.length:Int)-(q:Int)-1<m+2)=true:=decide_eq_true h5
          clear hoo ho h58 hrc hrl hcl;go_wp2_with fail;refine(K1.out _).mono ?_;rintro e w2⟨rfl,rfl⟩;go_wp2;go_ret2;exact⟨_,by first|rfl|(rw[←HAL.out];rfl)|(rw[HAL.out,List.length_flatMap];rfl),hown,hbw⟩
         ·have d5:decide ((b.length:Int)-(q:Int)-1<m+2)=false:=decide_eq_false h5
          obtain⟨n,rfl⟩:∃n:Nat,m=n:=⟨m.toNat,by omega⟩
          have hsl2:=fun W:World=>Wp b ((q:Int)+1) ((q:Int)+1+(n:Nat)) (q+1) (q+1+n) (by omega) (by omega) (by omega) (by omega) W
          have hi1:=fun W:World=>Mq b ((q:Int)+1+(n:Nat)) (q+1+n) (by omega) (by omega) W
          have hi2:=fun W:World=>Mq b ((q:Int)+2+(n:Nat)) (q+2+n) (by omega) (by omega) W
          have hbad:¬(b[q+1+n]'(by omega)=10∧b[q+2+n]'(by omega)=46):=by
           rintro⟨e1,e2⟩
           have g1:(Dv (b.drop A))[n]'(by rw[hrl];omega)=10:=by
            have:(Dv (b.drop A))[n]?=some 10:=by rw[hrc,List.getElem?_drop,List.getElem?_eq_getElem (by omega),e1]
            rw[List.getElem?_eq_getElem (by rw[hrl];omega)] at this;exact Option.some.inj this
           have g2:(Dv (b.drop A))[n+1]'(by rw[hrl];omega)=46:=by
            have:(Dv (b.drop A))[n+1]?=some 46:=by
             rw[hrc,List.getElem?_drop];simp only[show q+1+(n+1)=q+2+n by omega];rw[List.getElem?_eq_getElem (by omega),e2]
            rw[List.getElem?_eq_getElem (by rw[hrl];omega)] at this;exact Option.some.inj this
           have hp:((Dv (b.drop A)).drop (n:Int).toNat).take 2=[10,46]:=by
            rw[Int.toNat_natCast,zFm (by rw[hrl];omega),g1,g2]
           have hx:=hoo;rw[if_pos ⟨by omega,by omega,by rw[hrl,Int.toNat_natCast];omega,hp⟩] at hx;simp at hx
          generalize b[q+1+n]'(by omega)=y1 at *;generalize b[q+2+n]'(by omega)=y2 at *;generalize (b.drop (q+1)).take (q+1+n-(q+1))=sx at *
          by_cases hy1:y1=10
          ·have hy2:y2≠46:=fun e=>hbad ⟨hy1,e⟩
           subst hy1;rw[show(((10:UInt8).toNat:Nat):Int)=10 from rfl] at hi1;have hyn:y2.toNat≠(46:UInt8).toNat:=fun e=>hy2 (UInt8.toNat_inj.1 e)
           have hyb:((y2.toNat:Int) != 46)=true:=by simp at hyn ⊢;omega
           clear hoo ho h58 hrc hrl hcl hbad hy2;go_wp2_with fail;refine(K1.out _).mono ?_;rintro e w2⟨rfl,rfl⟩;go_wp2;go_ret2;exact⟨_,by first|rfl|(rw[←HAL.out];rfl)|(rw[HAL.out,List.length_flatMap];rfl),hown,hbw⟩
          ·have hyn:y1.toNat≠(10:UInt8).toNat:=fun e=>hy1 (UInt8.toNat_inj.1 e)
           have hyb:((y1.toNat:Int) != 10)=true:=by simp at hyn ⊢;omega
           clear hoo ho h58 hrc hrl hcl hbad hy1;go_wp2_with fail;refine(K1.out _).mono ?_;rintro e w2⟨rfl,rfl⟩;go_wp2;go_ret2;exact⟨_,by first|rfl|(rw[←HAL.out];rfl)|(rw[HAL.out,List.length_flatMap];rfl),hown,hbw⟩
     ·have hqq:q=b.length:=by omega
      have d0:decide ((q:Int)<(b.length:Int))=false:=decide_eq_false (by omega);have d1:((q:Int)==(b.length:Int))=true:=by simp;omega
      clear ho h58 hrc hrl hsl1 K1 HQE hqq hqb;go_wp2;go_ret2;exact⟨_,by first|rfl|(rw[←HAL.out];rfl)|(rw[HAL.out,List.length_flatMap];rfl),hown,hbw⟩
end Go.Proofs.YtppfkokfnoeopaaGreatDoor
