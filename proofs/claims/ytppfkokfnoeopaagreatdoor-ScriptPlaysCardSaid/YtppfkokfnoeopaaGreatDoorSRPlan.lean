/- A part of a proof. -/
import Derived.Test.YtppfkokfnoeopaaGreatDoorSCrewRead
import Derived.Test.YtppfkokfnoeopaaGreatDoorSPlan
import Derived.Test.YtppfkokfnoeopaaGreatDoorSRefBase
set_option maxRecDepth 400000
set_option maxHeartbeats 6400000
namespace Go.Proofs.YtppfkokfnoeopaaGreatDoor
def pw(k:Nat):Nat:=2^k
theorem zB2(k:Nat):pw (k+1)=2*pw k:=by unfold pw;rw[Nat.pow_succ];omega
theorem zB1{k:Nat}(h:k≤16):1≤pw k∧pw k≤65536:=by
 unfold pw;exact⟨Nat.one_le_two_pow,by have:=Nat.pow_le_pow_right (n:=2) (by omega) h;simpa using this⟩
def Ef(p:Nat→Bool):Nat→Nat
 | 0=>0
 | k+1=>Ef p k+if p k then pw k else 0
theorem Nl(p:Nat→Bool):∀k,Ef p k<2^k
 | 0=>by simp[Ef]
 | k+1=>by
  have h:=Nl p k;rw[Ef,Nat.pow_succ];unfold pw
  split<;>omega
theorem Lf(p:Nat→Bool)(i:Nat):∀k,(Ef p k).testBit i=(decide (i<k)&&p i)
 | 0=>by simp[Ef]
 | k+1=>by
  have h:=Nl p k;have ih:=Lf p i k;rw[Ef]
  rcases Nat.lt_trichotomy i k with hlt|rfl|hgt
  ·have e1:decide (i<k+1)=true:=by simp;omega
   have e2:decide (i<k)=true:=by simpa using hlt
   rw[e1];rw[e2] at ih
   split
   ·unfold pw;rw[Nat.add_comm,Nat.testBit_two_pow_add_gt hlt];exact ih
   ·exact ih
  ·have e1:decide (i<i+1)=true:=by simp
   rw[e1,Bool.true_and]
   cases hp:p i
   ·simp only[Bool.false_eq_true,if_false,Nat.add_zero];exact Nat.testBit_lt_two_pow h
   ·simp only[if_true];unfold pw;rw[Nat.add_comm,Nat.testBit_two_pow_add_eq,Nat.testBit_lt_two_pow h];rfl
  ·have e1:decide (i<k+1)=false:=by simp;omega
   rw[e1,Bool.false_and];refine Nat.testBit_lt_two_pow (Nat.lt_of_lt_of_le ?_ (Nat.pow_le_pow_right (by omega) hgt));rw[Nat.succ_eq_add_one,Nat.pow_succ];unfold pw
   split<;>omega
theorem zA4{p:Nat→Bool}{k x:Nat}(hx:x<2^k)(h:∀i,i<k→x.testBit i=p i):Ef p k=x:=by
 apply Nat.eq_of_testBit_eq;intro i;rw[Lf]
 by_cases hi:i<k
 ·simp[hi,h i hi]
 ·simp only[hi,decide_false,Bool.false_and]
  exact(Nat.testBit_lt_two_pow (Nat.lt_of_lt_of_le hx (Nat.pow_le_pow_right (by omega) (by omega)))).symm
theorem Zp{l:List Int}(h:∀n∈l,Aq n=true):Ef (fun i=>decide (((i:Int)+1)∈l)) 16=A6 l:=by
 refine zA4 (Hq h) fun i hi=>?_
 have hb:=Qb h ((i:Int)+1);have hl:=Hq h;have hc:Bn ((A6 l:Nat):Int)=true:=by simp only[Bn,decide_eq_true_eq];omega
 have hn:Aq ((i:Int)+1)=true:=by simp only[Aq,decide_eq_true_eq];omega
 rw[Ep,hc,hn,Bool.true_and,Bool.true_and,Int.toNat_natCast,show((i:Int)+1).toNat-1=i by omega] at hb;exact hb
end Go.Proofs.YtppfkokfnoeopaaGreatDoor
namespace Go.Proofs.YtppfkokfnoeopaaGreatDoor
open Go.RowKit
theorem Km(c:Int)(w:World):Calls Tryz.prog 143 #[.int .i64 c] w fun e w'=>e=.returned (.bool (Bn c))∧w=w':=by
 go_enter Tryz.func143,Tryz.ntmps143;go_wp2
 all_goals(go_ret;exact⟨Ca (by rw[Bool.eq_iff_iff];simp[Bn];try omega),rfl⟩)
theorem Wi(k:Nat)(w:World)(hk:k<16) :
 Calls Tryz.prog 121 #[.int .i64 ((k:Int)+1)] w fun e w'=>e=.returned (.int .i64 (pw k))∧w=w':=by
 go_enter Tryz.func121,Tryz.ntmps121;go_wp2;go_loop [3,4] (fun p i=>∃j:Nat,j≤k∧i=.int .i64 ((j:Int)+1)∧p=.int .i64 (pw j)) (fun _ i=>17-(intOf i).toNat)
 case atStart=>exact⟨0,Nat.zero_le _,by simp,by simp[pw]⟩
 case round=>
  obtain⟨j,hj,rfl,rfl⟩:=hrel;have hp:=zB1 (k:=j) (by omega);have HS:=zh (zB2 j)
  by_cases hlt:j<k
  ·go_wp2
   go_round
   case rel=>exact⟨j+1,by omega,by go_num,by rw[HS.out];go_num⟩
   case measure=>simp[intOf];omega
  ·obtain rfl:j=k:=by omega
   go_wp2;go_ret;exact⟨rfl,rfl⟩
theorem zH0(c k:Nat):((((c/pw k%2:Nat):Int))==1)=c.testBit k:=by
 have h:=Nat.toNat_testBit c k;unfold pw;rw[←h]
 cases c.testBit k<;>rfl
theorem Gs(c n:Int)(w:World):Calls Tryz.prog 122 #[.int .i64 c,.int .i64 n] w fun e w'=>e=.returned (.bool (Ep c n))∧w=w':=by
 have KC:=zh (fun(W:World)=>Km c W);have KN:=zh (fun(W:World)=>Au n W);have hh:Ep c n=(Bn c&&(Aq n&&c.toNat.testBit (n.toNat-1))):=rfl
 cases hc:Bn c
 ·have HX:Hid (Ep c n=false):=by unfold Hid;rw[hh,hc];rfl
  rw[hc] at KC;generalize Aq n=b at *;clear hh hc;go_enter Tryz.func122,Tryz.ntmps122
  go_wp2_with (first
   | (go_at_call 143;refine(KC.out _).mono ?_;rintro e w1⟨rfl,rfl⟩)
   | (go_at_call 119;refine(KN.out _).mono ?_;rintro e w1⟨rfl,rfl⟩))
  go_ret;exact⟨Ca HX.out.symm,rfl⟩
 ·cases hn:Aq n
  ·have HX:Hid (Ep c n=false):=by unfold Hid;rw[hh,hc,hn];rfl
   rw[hc] at KC;rw[hn] at KN;clear hh hc hn;go_enter Tryz.func122,Tryz.ntmps122
   go_wp2_with (first
    | (go_at_call 143;refine(KC.out _).mono ?_;rintro e w1⟨rfl,rfl⟩)
    | (go_at_call 119;refine(KN.out _).mono ?_;rintro e w1⟨rfl,rfl⟩))
   go_ret;exact⟨Ca HX.out.symm,rfl⟩
  ·have hn':=hn
   simp only[Aq,decide_eq_true_eq] at hn';obtain⟨k,rfl⟩:∃k:Nat,n=(k:Int)+1:=⟨(n-1).toNat,by omega⟩
   obtain⟨m,rfl⟩:∃m:Nat,c=m:=by simp only[Bn,decide_eq_true_eq] at hc;exact⟨c.toNat,by omega⟩
   have hm:m<65536:=by simp only[Bn,decide_eq_true_eq] at hc;omega
   have HX:Hid (Ep (m:Int) ((k:Int)+1)=m.testBit k):=by unfold Hid;rw[hh,hc,hn,Bool.true_and,Bool.true_and];congr 1
   have KP:=zh (fun(W:World)=>Wi k W (by omega));have hp:=zB1 (k:=k) (by omega);have hd:=zH0 m k;have e1:(m:Int).tdiv (pw k:Int)=((m/pw k:Nat):Int):=(Int.ofNat_tdiv m (pw k)).symm;have e2:(((m/pw k:Nat):Int)).tmod 2=((m/pw k%2:Nat):Int):=(Int.ofNat_tmod _ 2).symm;have hle:m/pw k≤65536:=Nat.le_trans (Nat.div_le_self _ _) (by omega)
   have e3:wrap64 ((m:Int)/(pw k:Int))=((m/pw k:Nat):Int):=by
    rw[←Int.natCast_ediv];have h1:((m/pw k:Nat):Int)≤65536:=Int.ofNat_le.2 hle;have h0:0≤((m/pw k:Nat):Int):=Int.natCast_nonneg _;clear e1 e2 hd;unfold wrap64;omega
   rw[hc] at KC;rw[hn] at KN;clear hh hc hn;generalize pw k=p at *;have hp0:(p:Int)≠0:=by omega
   go_enter Tryz.func122,Tryz.ntmps122
   go_wp2_with (first
    | (go_at_call 143;refine(KC.out _).mono ?_;rintro e w1⟨rfl,rfl⟩)
    | (go_at_call 119;refine(KN.out _).mono ?_;rintro e w1⟨rfl,rfl⟩)
    | (go_at_call 121;refine(KP.out _).mono ?_;rintro e w1⟨rfl,rfl⟩))
   go_ret;exact⟨Ca (by rw[HX.out,←hd];show(((m:Int)/(p:Int)).tmod 2==1)=_;rw[←Int.natCast_ediv,e2]),rfl⟩
end Go.Proofs.YtppfkokfnoeopaaGreatDoor
namespace Go.Proofs.YtppfkokfnoeopaaGreatDoor
open Go.RowKit
end Go.Proofs.YtppfkokfnoeopaaGreatDoor
namespace Go.Proofs.YtppfkokfnoeopaaGreatDoor
open Go.RowKit
theorem Cc(a:Option Addr)(n cap:Nat)(l:List Int)(w:World)(hn:l.length=n)(hr:Ac w a (Aa l))(hc:n≤4611686018427387904) :
 Calls Tryz.prog 70 #[.slice a n cap] w fun e w'=>e=.returned (.agg #[.int .i64 (Ay l).1,.int .i64 (Ay l).2])∧Below w.heap.size w w':=by
 have HN:=zh hn
 by_cases h0:n=0
 ·have HP:Hid (Ay l=(5,-1)):=by unfold Hid;rw[Ay,if_pos (by omega)]
  subst h0;clear hn;go_enter Tryz.func70,Tryz.ntmps70;go_wp2_with (go_at_call 118;refine(Cu _ _).mono ?_;rintro e w1⟨rfl,hb⟩;obtain⟨c0,c1,f0,f1,z1,hw1⟩:=L1 hb);refine bodyPost_ret (v:=.agg #[.int .i64 5,.int .i64 (-1)]) (by simp[results,Tryz.results70,go_sem,c0,c1]) rfl ?_;rw[HP.out];exact⟨rfl,(hw1.setCell (by simp) _).setCell (by simp) _⟩
 ·have hz:((n:Int)==0)=false:=by simp;omega
  by_cases h1:32<n
  ·have HP:Hid (Ay l=(7,-1)):=by unfold Hid;rw[Ay,if_neg (by omega),if_pos (by omega)]
   clear h0 hn;go_enter Tryz.func70,Tryz.ntmps70;go_wp2_with (go_at_call 118;refine(Cu _ _).mono ?_;rintro e w1⟨rfl,hb⟩;obtain⟨c0,c1,f0,f1,z1,hw1⟩:=L1 hb);refine bodyPost_ret (v:=.agg #[.int .i64 7,.int .i64 (-1)]) (by simp[results,Tryz.results70,go_sem,c0,c1]) rfl ?_;rw[HP.out];exact⟨rfl,(hw1.setCell (by simp) _).setCell (by simp) _⟩
  ·have HP:Hid (Ay l=if Bl 0 l<0 then(0,-1) else(4,Bl 0 l)):=by unfold Hid;rw[Ay,if_neg (by omega),if_neg (by omega)]
   have hd:decide ((32:Int)<(n:Int))=false:=by simp;omega
   clear h0 hn;go_enter Tryz.func70,Tryz.ntmps70;go_wp2;go_loop [3] (fun i=>∃k:Nat,k≤n∧i=.int .i64 k∧Hid (Bl k (l.drop k)=Bl 0 l)) (fun i=>n-(intOf i).toNat)
   case atStart=>exact⟨0,Nat.zero_le _,rfl,rfl⟩
   case round=>
    obtain⟨k,hk,rfl,HK⟩:=hrel
    by_cases hlt:k<n
    ·have hkt:k<l.length:=by have:=HN.out;omega
     have hw0:Below w.heap.size w (w.alloc (.cells #[.int .i64 0,.int .i64 0] 55)):=zb.alloc zl _;obtain⟨b,off,rfl,hbl,c0⟩:=(hr.below hw0).int k hkt;have hdr:l.drop k=l[k]::l.drop (k+1):=List.drop_eq_getElem_cons hkt;have hi0:(0:Int)≤(k:Int):=by omega
     have hi1:(k:Int)<(n:Int):=by omega
     generalize l[k]=x at *
     cases hx:Aq x
     ·have HS:Hid (Bl 0 l=k):=by unfold Hid at HK ⊢;rw[←HK,hdr,Bl,hx];rfl
      have HX:=zh hx;clear hdr hx HK hw0;go_wp2_with (go_at_call 119;refine(Au _ _).mono ?_;rintro e w1⟨rfl,rfl⟩;rw[HX.out]);refine bodyPost_ret (v:=.agg #[.int .i64 4,.int .i64 k]) (by simp[results,Tryz.results70,go_sem]) rfl ?_;rw[HP.out,HS.out,if_neg (by omega)];exact⟨rfl,zb.alloc zl _⟩
     ·have HS:Hid (Bl (k+1:Nat) (l.drop (k+1))=Bl 0 l):=by unfold Hid at HK ⊢;rw[←HK,hdr,Bl,hx];rfl
      have HX:=zh hx;clear hdr hx HK hw0;go_wp2_with (go_at_call 119;refine(Au _ _).mono ?_;rintro e w1⟨rfl,rfl⟩;rw[HX.out]);go_round
      case rel=>exact⟨k+1,by omega,by go_num,HS⟩
      case measure=>simp[intOf];omega
    ·have HS:Hid (Bl 0 l=-1):=by unfold Hid at HK ⊢;rw[←HK,List.drop_eq_nil_of_le (by have:=HN.out;omega)];rfl
     go_wp2_with (go_at_call 64;refine(Jz _).mono ?_;rintro e w1⟨rfl,hb⟩;obtain⟨c0,c1,f0,f1,z1,hw1⟩:=L1 hb);refine bodyPost_ret (v:=.agg #[.int .i64 0,.int .i64 (-1)]) (by simp[results,Tryz.results70,go_sem,c0,c1]) rfl ?_;rw[HP.out,HS.out,if_pos (by omega)];exact⟨rfl,(hw1.setCell (by simp) _).setCell (by simp) _⟩
theorem Ud(a:Option Addr)(n cap:Nat)(l:List Int)(s:Int)(w:World)(hn:l.length=n)(hr:Ac w a (Aa l))(hc:n≤4611686018427387904) :
 Calls Tryz.prog 163 #[.slice a n cap,.int .i64 s] w fun e w'=>e=.returned (.agg #[.int .i64 (Bj l s).1,.int .i64 (Bj l s).2])∧Below w.heap.size w w':=by
 have hb0:Below w.heap.size w (w.alloc (.cells #[.int .i64 0,.int .i64 0] 55)):=zb.alloc zl _;have C:=zh (Cc a n cap l _ hn (hr.below hb0) hc)
 by_cases h0:(Ay l).1=0
 ·have hF:=(Ai h0).1
  rw[hF] at C;have e0:(((0:Nat),(-1:Int)).1:Int)=0:=rfl;have e1:(((0:Nat),(-1:Int)).2:Int)=-1:=rfl;rw[e0,e1] at C;clear e0 e1
  by_cases hs:0≤s∧s≤1000000
  ·have HP:Hid (Bj l s=(0,-1)):=by unfold Hid;rw[Bj,if_pos h0,if_pos hs]
   obtain⟨hs0,hs1⟩:=hs;clear h0 hF hb0 hn;go_enter Tryz.func163,Tryz.ntmps163;go_wp2_with fail;refine C.out.mono ?_;rintro e w1⟨rfl,hb⟩;obtain⟨c0,c1,f0,f1,z1,hw1⟩:=L1 hb;obtain⟨R0,R1⟩:=zG7 z1 c0 c1;go_wp2;refine bodyPost_ret (v:=.agg #[.int .i64 0,.int .i64 (-1)]) (by simp[results,Tryz.results163,go_sem,R0,R1]) rfl ?_;rw[HP.out];exact⟨rfl,((hw1.setCell (by simp) _).setCell (by simp) _).alloc (by simpa using hw1.size) _⟩
  ·have HP:Hid (Bj l s=(2,-1)):=by unfold Hid;rw[Bj,if_pos h0,if_neg hs]
   by_cases hs0:s<0
   all_goals
    have hs2:s<0∨1000000<s:=by omega
    first
     | (have hd0:decide (s<0)=true:=decide_eq_true hs0)
     | (have hd0:decide (s<0)=false:=decide_eq_false hs0;have hd1:decide ((1000000:Int)<s)=true:=decide_eq_true (by omega))
    clear hs h0 hF hb0 hn;go_enter Tryz.func163,Tryz.ntmps163;go_wp2_with fail;refine C.out.mono ?_;rintro e w1⟨rfl,hb⟩;obtain⟨c0,c1,f0,f1,z1,hw1⟩:=L1 hb;go_wp2_with fail;refine(Cu _ _).mono ?_;rintro e w2⟨rfl,hb2⟩;obtain⟨d0,d1,g0,g1,z2⟩:=Qd (zAj hb2) z1 c0 c1 f0 f1;obtain⟨_,_,r0,r1,z3,hw2⟩:=L1 hb2;go_wp2;refine bodyPost_ret (v:=.agg #[.int .i64 2,.int .i64 (-1)]) (by simp[results,Tryz.results163,go_sem,d0,d1]) rfl ?_;rw[HP.out];have hs1:=hw1.size;exact⟨rfl,((((hw1.trans ((zAj hb2).mono hw1.size)).setCell (by simpa using hs1) _).setCell (by simpa using hs1) _).setCell (by simp) _).setCell (by simp) _⟩
 ·have HP:Hid (Bj l s=Ay l):=by unfold Hid;rw[Bj,if_neg h0]
  have hz:(((Ay l).1:Int)==0)=false:=by simp;omega
  generalize hq1:((Ay l).1:Int)=c at *;generalize hq2:(Ay l).2=pl at *;have HQ1:=zh hq1;have HQ2:=zh hq2;clear h0 hb0 hn hq1 hq2;go_enter Tryz.func163,Tryz.ntmps163;go_wp2_with fail;refine C.out.mono ?_;rintro e w1⟨rfl,hb⟩;obtain⟨c0,c1,f0,f1,z1,hw1⟩:=L1 hb;obtain⟨R0,R1⟩:=zG7 z1 c0 c1;go_wp2;refine bodyPost_ret (v:=.agg #[.int .i64 c,.int .i64 pl]) (by simp[results,Tryz.results163,go_sem,R0,R1]) rfl ?_;rw[HP.out,HQ1.out,HQ2.out];exact⟨rfl,((hw1.setCell (by simp) _).setCell (by simp) _).alloc (by simpa using hw1.size) _⟩
theorem Qk(k:Nat)(w:World)(hk:k<16) :
 Calls Tryz.prog 121 #[.int .i64 ((k:Int)+1)] w fun e w'=>e=.returned (.int .i64 (pw k))∧w=w':=by
 go_enter Tryz.func121,Tryz.ntmps121;go_wp2;go_loop [3,4] (fun p i=>∃j:Nat,j≤k∧i=.int .i64 ((j:Int)+1)∧p=.int .i64 (pw j)) (fun _ i=>17-(intOf i).toNat)
 case atStart=>exact⟨0,Nat.zero_le _,by simp,by simp[pw]⟩
 case round=>
  obtain⟨j,hj,rfl,rfl⟩:=hrel;have hp:=zB1 (k:=j) (by omega);have HS:=zh (zB2 j)
  by_cases hlt:j<k
  ·go_wp2
   go_round
   case rel=>exact⟨j+1,by omega,by go_num,by rw[HS.out];go_num⟩
   case measure=>simp[intOf];omega
  ·obtain rfl:j=k:=by omega
   go_wp2;go_ret;exact⟨rfl,rfl⟩
def inB(l:List Int)(i:Nat):Bool:=decide (((i:Int)+1)∈l)
def Fx(l:List Int):Int×Nat×Int:=if Bl 0 l<0 then(A6 l,0,-1) else(0,4,Bl 0 l)
theorem Jr(a:Option Addr)(n cap:Nat)(l:List Int)(w:World)(hn:l.length=n)(hr:Ac w a (Aa l))(hc:n≤4611686018427387904) :
 Calls Tryz.prog 71 #[.slice a n cap] w fun e w'=>e=.returned (.tuple #[.int .i64 (Fx l).1,.agg #[.int .i64 (Fx l).2.1,.int .i64 (Fx l).2.2]])∧Below w.heap.size w w':=by
 have HN:=zh hn;have hw0:Below w.heap.size w (w.alloc (.cells #[.int .i64 0,.int .i64 0] 55)):=zb.alloc zl _;have HR:=zh (hr.below hw0);clear hn hw0;go_enter Tryz.func71,Tryz.ntmps71;go_wp2;go_loop [4] (fun i=>∃k:Nat,k≤n∧i=.int .i64 k∧Hid (Bl k (l.drop k)=Bl 0 l)) (fun i=>n-(intOf i).toNat)
 case atStart=>exact⟨0,Nat.zero_le _,rfl,rfl⟩
 case round=>
  obtain⟨k,hk,rfl,HK⟩:=hrel
  by_cases hlt:k<n
  ·have hkt:k<l.length:=by have:=HN.out;omega
   obtain⟨b,off,rfl,hbl,c0⟩:=HR.out.int k hkt;have hdr:l.drop k=l[k]::l.drop (k+1):=List.drop_eq_getElem_cons hkt;have hi0:(0:Int)≤(k:Int):=by omega
   have hi1:(k:Int)<(n:Int):=by omega
   generalize l[k]=x at *
   cases hx:Aq x
   ·have HS:Hid (Bl 0 l=k):=by unfold Hid at HK ⊢;rw[←HK,hdr,Bl,hx];rfl
    have HX:=zh hx;clear hdr hx HK;go_wp2_with (go_at_call 119;refine(Au _ _).mono ?_;rintro e w1⟨rfl,rfl⟩;rw[HX.out]);refine bodyPost_ret (v:=.tuple #[.int .i64 0,.agg #[.int .i64 4,.int .i64 k]]) (by simp[results,Tryz.results71,go_sem]) rfl ?_;rw[Fx,HS.out,if_neg (by omega)];exact⟨rfl,zb.alloc zl _⟩
   ·have HS:Hid (Bl (k+1:Nat) (l.drop (k+1))=Bl 0 l):=by unfold Hid at HK ⊢;rw[←HK,hdr,Bl,hx];rfl
    have HX:=zh hx;clear hdr hx HK;go_wp2_with (go_at_call 119;refine(Au _ _).mono ?_;rintro e w1⟨rfl,rfl⟩;rw[HX.out]);go_round
    case rel=>exact⟨k+1,by omega,by go_num,HS⟩
    case measure=>simp[intOf];omega
  ·have HS:Hid (Bl 0 l=-1):=by unfold Hid at HK ⊢;rw[←HK,List.drop_eq_nil_of_le (by have:=HN.out;omega)];rfl
   have HC:Hid (Ef (inB l) 16=A6 l):=Zp ((E7 l 0 (by omega)).1 (by rw[HS.out];omega));clear HK;go_wp2;go_loop [6,7] (fun c i=>∃j:Nat,j≤16∧i=.int .i64 ((j:Int)+1)∧c=.int .i64 (Ef (inB l) j)) (fun _ i=>18-(intOf i).toNat)
   case atStart=>exact⟨0,Nat.zero_le _,by simp,by simp[Ef]⟩
   case round=>
    obtain⟨j,hj,rfl,rfl⟩:=hrel
    by_cases hlt:j<16
    ·have hp:=zB1 (k:=j) (by omega)
     have hs:Ef (inB l) j≤65536:=by
      have:=Nl (inB l) j;have h2:=Nat.pow_le_pow_right (n:=2) (by omega) (show j≤16 by omega);simp only[Nat.reducePow] at h2;omega
     have HS2:Hid (Ef (inB l) (j+1)=Ef (inB l) j+if decide (((j:Int)+1)∈l) then pw j else 0):=rfl
     cases hm:decide (((j:Int)+1)∈l)
     all_goals
      rw[hm] at HS2;have HM:=zh hm;clear hm;generalize Ef (inB l) j=S at *
      go_wp2_with (first
       | (go_at_call 120;refine(Ia _ _ _ _ l _ HN.out HR.out hc).mono ?_;rintro e w1⟨rfl,rfl⟩;rw[HM.out])
       | (go_at_call 121;refine(Qk _ _ hlt).mono ?_;rintro e w1⟨rfl,rfl⟩))
      go_round
      case rel=>exact⟨j+1,by omega,by go_num,by rw[HS2.out];first|rfl|(rw[if_pos rfl];go_num)⟩
      case measure=>simp[intOf];omega
    ·obtain rfl:j=16:=by omega
     rw[HC.out];go_wp2_with (go_at_call 64;refine(Jz _).mono ?_;rintro e w1⟨rfl,hb⟩;obtain⟨c0,c1,f0,f1,z1,hw1⟩:=L1 hb);refine bodyPost_ret (v:=.tuple #[.int .i64 (A6 l),.agg #[.int .i64 0,.int .i64 (-1)]]) (by simp[results,Tryz.results71,go_sem,c0,c1]) rfl ?_;rw[Fx,HS.out,if_pos (by omega)];exact⟨rfl,(hw1.setCell (by simp) _).setCell (by simp) _⟩
end Go.Proofs.YtppfkokfnoeopaaGreatDoor
namespace Go.Proofs.YtppfkokfnoeopaaGreatDoor
open Go.RowKit Go.Proofs.Tryz
theorem Yp(a:Option Addr)(n cap:Nat)(l:List Int)(node s:Int)(w:World)(hn:l.length=n)(hr:Ac w a (Aa l))(hc:n≤4611686018427387904) :
 Calls prog 114 #[.slice a n cap,.int .i64 node,.int .i64 s] w fun e w'=>e=.returned (.tuple #[.int .i64 (Dy l node s).1,.agg #[.int .i64 (Dy l node s).2.1,.int .i64 (Dy l node s).2.2]])∧Below w.heap.size w w':=by
 have hb0:Below w.heap.size w (w.alloc (.cells #[.int .i64 0,.int .i64 0] 55)):=zb.alloc zl _;have C:=zh (Ud a n cap l s _ hn (hr.below hb0) hc)
 by_cases h0:(Bj l s).1=0
 ·rw[Jg h0] at C
  have e0:(((0:Nat),(-1:Int)).1:Int)=0:=rfl;have e1:(((0:Nat),(-1:Int)).2:Int)=-1:=rfl;rw[e0,e1] at C;clear e0 e1;obtain⟨k,rfl⟩:∃k:Nat,s=k:=⟨s.toNat,by have:=(Dw h0).2.1;omega⟩
  have hl:=(Ai (Dw h0).1);have hs:=(Dw h0).2.2;have hn0:0<n:=by omega
  have hn32:n≤32:=by omega
  have hnz:((n:Int)==0)=false:=by simp;omega
  rcases Jl (fun j=>Am l (k+j)=node) n with⟨m,hm,hw,hno⟩|hno
  ·have hF:Hid (Dy l node k=(((k+m:Nat):Int),0,-1)):=by unfold Hid;rw[Dy,if_pos h0,Int.toNat_natCast,Qh (by omega) hw hno,Int.natCast_add]
   have hin:Hid (node∈l):=by unfold Hid;rw[←hw];exact D0 l (k+m) (by omega)
   have HN:=zh hn;have HW:=zh hw;have HNO:=zh hno;clear h0 hb0 hn hl hw hno;go_enter func114,ntmps114;go_wp2_with fail;refine C.out.mono ?_;rintro e w1⟨rfl,hb⟩;obtain⟨c0,c1,f0,f1,z1,hw1⟩:=L1 hb;obtain⟨R0,R1⟩:=zG7 z1 c0 c1;have hr1:=hr.below (hw1.alloc hw1.size (.cells #[.int .i64 0,.int .i64 (-1)] 55));go_wp2_with (go_at_call 120;refine(Ia _ _ _ _ l _ HN.out hr1 hc).mono ?_;rintro e w2⟨rfl,rfl⟩;rw[decide_eq_true hin.out]);go_loop [2] (fun i=>∃j:Nat,j≤m∧i=.int .i64 ((k:Int)+j)) (fun i=>k+m+1-(intOf i).toNat)
   case atStart=>exact⟨0,Nat.zero_le _,by simp⟩
   case round=>
    obtain⟨j,hj,rfl⟩:=hrel;obtain⟨b,off,rfl,hbl,q0⟩:=Ig k j hr1 HN.out hn0;have hm1:=Nat.mod_lt (k+j) hn0;have hm2:0≤((k:Int)+j)%n:=Int.emod_nonneg _ (by omega);have hm3:((k:Int)+j)%n<n:=Int.emod_lt_of_pos _ (by omega)
    by_cases hlt:j<m
    ·have hx:(Am l (k+j)==node)=false:=by simpa using HNO.out j hlt
     have hx2:(Am l (k+j) != node)=true:=by simpa using HNO.out j hlt
     generalize Am l (k+j)=x at *;go_wp2;go_round
     case rel=>exact⟨j+1,by omega,by go_num⟩
     case measure=>simp[intOf];omega
    ·obtain rfl:j=m:=by omega
     have hx:(Am l (k+j)==node)=true:=by simpa using HW.out
     have hx2:(Am l (k+j) != node)=false:=by simpa using HW.out
     generalize Am l (k+j)=x at *;go_wp2;go_region;go_wp2;refine bodyPost_ret (v:=.tuple #[.int .i64 ((k:Int)+j),.agg #[.int .i64 0,.int .i64 (-1)]]) (by simp[results,results114,go_sem,R0,R1]) rfl ?_;rw[hF.out];exact⟨by simp,Ab (((hw1.setCell (by simp) _).setCell (by simp) _).alloc (by simpa using hw1.size) _) 1⟩
  ·have hF:Hid (Dy l node k=(0,5,-1)):=by unfold Hid;rw[Dy,if_pos h0,Int.toNat_natCast,Qg (by rw[hn];exact hno)]
   have hin:Hid (¬node∈l):=by
    unfold Hid;intro hm;obtain⟨j,hj,hw⟩:=zGf l k (by omega) node hm;exact hno j (by omega) hw
   have HN:=zh hn;clear h0 hb0 hn hl hno;go_enter func114,ntmps114;go_wp2_with fail;refine C.out.mono ?_;rintro e w1⟨rfl,hb⟩;obtain⟨c0,c1,f0,f1,z1,hw1⟩:=L1 hb;have hr1:=hr.below (hw1.alloc hw1.size (.cells #[.int .i64 0,.int .i64 (-1)] 55));go_wp2_with (go_at_call 120;refine(Ia _ _ _ _ l _ HN.out hr1 hc).mono ?_;rintro e w2⟨rfl,rfl⟩;rw[decide_eq_false hin.out]);refine(Cu _ _).mono ?_;rintro e w2⟨rfl,hb2⟩;obtain⟨d0,d1,g0,g1,z2⟩:=Qd (zAj hb2) z1 c0 c1 f0 f1;go_wp2;refine bodyPost_ret (v:=.tuple #[.int .i64 0,.agg #[.int .i64 5,.int .i64 (-1)]]) (by simp[results,results114,go_sem,d0,d1]) rfl ?_;rw[hF.out];exact⟨rfl,((hw1.trans ((zAj hb2).mono hw1.size)).setCell (by simp) _).setCell (by simp) _⟩
 ·have hF:Hid (Dy l node s=(0,Bj l s)):=by unfold Hid;rw[Dy,if_neg h0]
  have hz:(0:Int)<((Bj l s).1:Int):=by omega
  generalize hq1:((Bj l s).1:Int)=c at *;generalize hq2:(Bj l s).2=pl at *;have HQ1:=zh hq1;have HQ2:=zh hq2;clear h0 hb0 hn hq1 hq2;go_enter func114,ntmps114;go_wp2_with fail;refine C.out.mono ?_;rintro e w1⟨rfl,hb⟩;obtain⟨c0,c1,f0,f1,z1,hw1⟩:=L1 hb;obtain⟨R0,R1⟩:=zG7 z1 c0 c1;go_wp2;go_region;go_wp2;refine bodyPost_ret (v:=.tuple #[.int .i64 0,.agg #[.int .i64 c,.int .i64 pl]]) (by simp[results,results114,go_sem,R0,R1]) rfl ?_;rw[hF.out,HQ1.out,HQ2.out];exact⟨rfl,Ab (((hw1.setCell (by simp) _).setCell (by simp) _).alloc (by simpa using hw1.size) _) 1⟩
end Go.Proofs.YtppfkokfnoeopaaGreatDoor
