/- A part of a proof. -/
import Derived.Test.YtppfkokfnoeopaaGreatDoorDCrewRead
import Derived.Test.YtppfkokfnoeopaaGreatDoorDPlan
import Derived.Test.YtppfkokfnoeopaaGreatDoorDRefBase
namespace Go.Proofs.YtppfkokfnoeopaaGreatDoor
def pw(k:Nat):Nat:=2^k
theorem pw_succ(k:Nat):pw (k+1)=2*pw k:=by unfold pw;rw[Nat.pow_succ];omega
theorem pw_le{k:Nat}(h:k≤16):1≤pw k∧pw k≤65536:=by
 unfold pw;exact⟨Nat.one_le_two_pow,by have:=Nat.pow_le_pow_right (n:=2) (by omega) h;simpa using this⟩
def sumBits(p:Nat→Bool):Nat→Nat
 | 0=>0
 | k+1=>sumBits p k+if p k then pw k else 0
theorem sumBits_lt(p:Nat→Bool):∀k,sumBits p k<2^k
 | 0=>by simp[sumBits]
 | k+1=>by
  have h:=sumBits_lt p k;rw[sumBits,Nat.pow_succ];unfold pw
  split<;>omega
theorem testBit_sumBits(p:Nat→Bool)(i:Nat):∀k,(sumBits p k).testBit i=(decide (i<k)&&p i)
 | 0=>by simp[sumBits]
 | k+1=>by
  have h:=sumBits_lt p k;have ih:=testBit_sumBits p i k;rw[sumBits]
  rcases Nat.lt_trichotomy i k with hlt|rfl|hgt
  ·have e1:decide (i<k+1)=true:=by simp;omega
   have e2:decide (i<k)=true:=by simpa using hlt
   rw[e1];rw[e2] at ih
   split
   ·unfold pw;rw[Nat.add_comm,Nat.testBit_two_pow_add_gt hlt];exact ih
   ·exact ih
  ·have e1:decide (i<i+1)=true:=by simp
   rw[e1,Bool.true_and]
   cases hp:p i
   ·simp only[Bool.false_eq_true,if_false,Nat.add_zero];exact Nat.testBit_lt_two_pow h
   ·simp only[if_true];unfold pw;rw[Nat.add_comm,Nat.testBit_two_pow_add_eq,Nat.testBit_lt_two_pow h];rfl
  ·have e1:decide (i<k+1)=false:=by simp;omega
   rw[e1,Bool.false_and];refine Nat.testBit_lt_two_pow (Nat.lt_of_lt_of_le ?_ (Nat.pow_le_pow_right (by omega) hgt));rw[Nat.succ_eq_add_one,Nat.pow_succ];unfold pw
   split<;>omega
theorem sumBits_eq{p:Nat→Bool}{k x:Nat}(hx:x<2^k)(h:∀i,i<k→x.testBit i=p i):sumBits p k=x:=by
 apply Nat.eq_of_testBit_eq;intro i;rw[testBit_sumBits]
 by_cases hi:i<k
 ·simp[hi,h i hi]
 ·simp only[hi,decide_false,Bool.false_and]
  exact(Nat.testBit_lt_two_pow (Nat.lt_of_lt_of_le hx (Nat.pow_le_pow_right (by omega) (by omega)))).symm
theorem crewOf_sum{l:List Int}(h:∀n∈l,nodeB n=true):sumBits (fun i=>decide (((i:Int)+1)∈l)) 16=crewOf l:=by
 refine sumBits_eq (crewOf_lt h) fun i hi=>?_
 have hb:=hasB_crewOf h ((i:Int)+1);have hl:=crewOf_lt h;have hc:crewB ((crewOf l:Nat):Int)=true:=by simp only[crewB,decide_eq_true_eq];omega
 have hn:nodeB ((i:Int)+1)=true:=by simp only[nodeB,decide_eq_true_eq];omega
 rw[hasB,hc,hn,Bool.true_and,Bool.true_and,Int.toNat_natCast,show((i:Int)+1).toNat-1=i by omega] at hb;exact hb
end Go.Proofs.YtppfkokfnoeopaaGreatDoor
namespace Go.Proofs.YtppfkokfnoeopaaGreatDoor
open Go.RowKit
theorem isCrew_any(c:Int)(w:World):Calls Tryz.prog 143 #[.int .i64 c] w fun e w'=>e=.returned (.bool (crewB c))∧w=w':=by
 go_enter Tryz.func143,Tryz.ntmps143;go_wp2
 all_goals(go_ret;exact⟨ret_bool (by rw[Bool.eq_iff_iff];simp[crewB];try omega),rfl⟩)
theorem powerOf_any'(k:Nat)(w:World)(hk:k<16) :
 Calls Tryz.prog 121 #[.int .i64 ((k:Int)+1)] w fun e w'=>e=.returned (.int .i64 (pw k))∧w=w':=by
 go_enter Tryz.func121,Tryz.ntmps121;go_wp2;go_loop [3,4] (fun p i=>∃j:Nat,j≤k∧i=.int .i64 ((j:Int)+1)∧p=.int .i64 (pw j)) (fun _ i=>17-(intOf i).toNat)
 case atStart=>exact⟨0,Nat.zero_le _,by simp,by simp[pw]⟩
 case round=>
  obtain⟨j,hj,rfl,rfl⟩:=hrel;have hp:=pw_le (k:=j) (by omega);have HS:=Lib.hid (pw_succ j)
  by_cases hlt:j<k
  ·go_wp2
   go_round
   case rel=>exact⟨j+1,by omega,by go_num,by rw[HS.out];go_num⟩
   case measure=>simp[intOf];omega
  ·obtain rfl:j=k:=by omega
   go_wp2;go_ret;exact⟨rfl,rfl⟩
theorem bit_div(c k:Nat):((((c/pw k%2:Nat):Int))==1)=c.testBit k:=by
 have h:=Nat.toNat_testBit c k;unfold pw;rw[←h]
 cases c.testBit k<;>rfl
set_option maxHeartbeats 800000 in
theorem refHas_any(c n:Int)(w:World):Calls Tryz.prog 122 #[.int .i64 c,.int .i64 n] w fun e w'=>e=.returned (.bool (hasB c n))∧w=w':=by
 have KC:=Lib.hid (fun(W:World)=>isCrew_any c W);have KN:=Lib.hid (fun(W:World)=>isNode_any n W);have hh:hasB c n=(crewB c&&(nodeB n&&c.toNat.testBit (n.toNat-1))):=rfl
 cases hc:crewB c
 ·have HX:Hid (hasB c n=false):=by unfold Hid;rw[hh,hc];rfl
  rw[hc] at KC;generalize nodeB n=b at *;clear hh hc;go_enter Tryz.func122,Tryz.ntmps122
  go_wp2_with (first
   | (go_at_call 143;refine(KC.out _).mono ?_;rintro e w1⟨rfl,rfl⟩)
   | (go_at_call 119;refine(KN.out _).mono ?_;rintro e w1⟨rfl,rfl⟩))
  go_ret;exact⟨ret_bool HX.out.symm,rfl⟩
 ·cases hn:nodeB n
  ·have HX:Hid (hasB c n=false):=by unfold Hid;rw[hh,hc,hn];rfl
   rw[hc] at KC;rw[hn] at KN;clear hh hc hn;go_enter Tryz.func122,Tryz.ntmps122
   go_wp2_with (first
    | (go_at_call 143;refine(KC.out _).mono ?_;rintro e w1⟨rfl,rfl⟩)
    | (go_at_call 119;refine(KN.out _).mono ?_;rintro e w1⟨rfl,rfl⟩))
   go_ret;exact⟨ret_bool HX.out.symm,rfl⟩
  ·have hn':=hn
   simp only[nodeB,decide_eq_true_eq] at hn';obtain⟨k,rfl⟩:∃k:Nat,n=(k:Int)+1:=⟨(n-1).toNat,by omega⟩
   obtain⟨m,rfl⟩:∃m:Nat,c=m:=by simp only[crewB,decide_eq_true_eq] at hc;exact⟨c.toNat,by omega⟩
   have hm:m<65536:=by simp only[crewB,decide_eq_true_eq] at hc;omega
   have HX:Hid (hasB (m:Int) ((k:Int)+1)=m.testBit k):=by unfold Hid;rw[hh,hc,hn,Bool.true_and,Bool.true_and];congr 1
   have KP:=Lib.hid (fun(W:World)=>powerOf_any' k W (by omega));have hp:=pw_le (k:=k) (by omega);have hd:=bit_div m k;have e1:(m:Int).tdiv (pw k:Int)=((m/pw k:Nat):Int):=(Int.ofNat_tdiv m (pw k)).symm;have e2:(((m/pw k:Nat):Int)).tmod 2=((m/pw k%2:Nat):Int):=(Int.ofNat_tmod _ 2).symm;have hle:m/pw k≤65536:=Nat.le_trans (Nat.div_le_self _ _) (by omega)
   have e3:wrap64 ((m:Int)/(pw k:Int))=((m/pw k:Nat):Int):=by
    rw[←Int.natCast_ediv];have h1:((m/pw k:Nat):Int)≤65536:=Int.ofNat_le.2 hle;have h0:0≤((m/pw k:Nat):Int):=Int.natCast_nonneg _;clear e1 e2 hd;unfold wrap64;omega
   rw[hc] at KC;rw[hn] at KN;clear hh hc hn;generalize pw k=p at *;have hp0:(p:Int)≠0:=by omega
   go_enter Tryz.func122,Tryz.ntmps122
   go_wp2_with (first
    | (go_at_call 143;refine(KC.out _).mono ?_;rintro e w1⟨rfl,rfl⟩)
    | (go_at_call 119;refine(KN.out _).mono ?_;rintro e w1⟨rfl,rfl⟩)
    | (go_at_call 121;refine(KP.out _).mono ?_;rintro e w1⟨rfl,rfl⟩))
   go_ret;exact⟨ret_bool (by rw[HX.out,←hd];show(((m:Int)/(p:Int)).tmod 2==1)=_;rw[←Int.natCast_ediv,e2]),rfl⟩
end Go.Proofs.YtppfkokfnoeopaaGreatDoor
namespace Go.Proofs.YtppfkokfnoeopaaGreatDoor
open Go.RowKit
end Go.Proofs.YtppfkokfnoeopaaGreatDoor
namespace Go.Proofs.YtppfkokfnoeopaaGreatDoor
open Go.RowKit
theorem planFault_any(a:Option Addr)(n cap:Nat)(l:List Int)(w:World)(hn:l.length=n)(hr:RowAt w a (encInts l))(hc:n≤4611686018427387904) :
 Calls Tryz.prog 70 #[.slice a n cap] w fun e w'=>e=.returned (.agg #[.int .i64 (planF l).1,.int .i64 (planF l).2])∧Below w.heap.size w w':=by
 have HN:=Lib.hid hn
 by_cases h0:n=0
 ·have HP:Hid (planF l=(5,-1)):=by unfold Hid;rw[planF,if_pos (by omega)]
  subst h0;clear hn;go_enter Tryz.func70,Tryz.ntmps70;go_wp2_with (go_at_call 118;refine(bare_any _ _).mono ?_;rintro e w1⟨rfl,hb⟩;obtain⟨c0,c1,f0,f1,z1,hw1⟩:=own2 hb);refine bodyPost_ret (v:=.agg #[.int .i64 5,.int .i64 (-1)]) (by simp[results,Tryz.results70,go_sem,c0,c1]) rfl ?_;rw[HP.out];exact⟨rfl,(hw1.setCell (by simp) _).setCell (by simp) _⟩
 ·have hz:((n:Int)==0)=false:=by simp;omega
  by_cases h1:32<n
  ·have HP:Hid (planF l=(7,-1)):=by unfold Hid;rw[planF,if_neg (by omega),if_pos (by omega)]
   clear h0 hn;go_enter Tryz.func70,Tryz.ntmps70;go_wp2_with (go_at_call 118;refine(bare_any _ _).mono ?_;rintro e w1⟨rfl,hb⟩;obtain⟨c0,c1,f0,f1,z1,hw1⟩:=own2 hb);refine bodyPost_ret (v:=.agg #[.int .i64 7,.int .i64 (-1)]) (by simp[results,Tryz.results70,go_sem,c0,c1]) rfl ?_;rw[HP.out];exact⟨rfl,(hw1.setCell (by simp) _).setCell (by simp) _⟩
  ·have HP:Hid (planF l=if badIdx 0 l<0 then(0,-1) else(4,badIdx 0 l)):=by unfold Hid;rw[planF,if_neg (by omega),if_neg (by omega)]
   have hd:decide ((32:Int)<(n:Int))=false:=by simp;omega
   clear h0 hn;go_enter Tryz.func70,Tryz.ntmps70;go_wp2;go_loop [3] (fun i=>∃k:Nat,k≤n∧i=.int .i64 k∧Hid (badIdx k (l.drop k)=badIdx 0 l)) (fun i=>n-(intOf i).toNat)
   case atStart=>exact⟨0,Nat.zero_le _,rfl,rfl⟩
   case round=>
    obtain⟨k,hk,rfl,HK⟩:=hrel
    by_cases hlt:k<n
    ·have hkt:k<l.length:=by have:=HN.out;omega
     have hw0:Below w.heap.size w (w.alloc (.cells #[.int .i64 0,.int .i64 0] 55)):=(Below.refl _ _).alloc (Nat.le_refl _) _;obtain⟨b,off,rfl,hbl,c0⟩:=(hr.below hw0).int k hkt;have hdr:l.drop k=l[k]::l.drop (k+1):=List.drop_eq_getElem_cons hkt;have hi0:(0:Int)≤(k:Int):=by omega
     have hi1:(k:Int)<(n:Int):=by omega
     generalize l[k]=x at *
     cases hx:nodeB x
     ·have HS:Hid (badIdx 0 l=k):=by unfold Hid at HK ⊢;rw[←HK,hdr,badIdx,hx];rfl
      have HX:=Lib.hid hx;clear hdr hx HK hw0;go_wp2_with (go_at_call 119;refine(isNode_any _ _).mono ?_;rintro e w1⟨rfl,rfl⟩;rw[HX.out]);refine bodyPost_ret (v:=.agg #[.int .i64 4,.int .i64 k]) (by simp[results,Tryz.results70,go_sem]) rfl ?_;rw[HP.out,HS.out,if_neg (by omega)];exact⟨rfl,(Below.refl _ _).alloc (Nat.le_refl _) _⟩
     ·have HS:Hid (badIdx (k+1:Nat) (l.drop (k+1))=badIdx 0 l):=by unfold Hid at HK ⊢;rw[←HK,hdr,badIdx,hx];rfl
      have HX:=Lib.hid hx;clear hdr hx HK hw0;go_wp2_with (go_at_call 119;refine(isNode_any _ _).mono ?_;rintro e w1⟨rfl,rfl⟩;rw[HX.out]);go_round
      case rel=>exact⟨k+1,by omega,by go_num,HS⟩
      case measure=>simp[intOf];omega
    ·have HS:Hid (badIdx 0 l=-1):=by unfold Hid at HK ⊢;rw[←HK,List.drop_eq_nil_of_le (by have:=HN.out;omega)];rfl
     go_wp2_with (go_at_call 64;refine(fine_any _).mono ?_;rintro e w1⟨rfl,hb⟩;obtain⟨c0,c1,f0,f1,z1,hw1⟩:=own2 hb);refine bodyPost_ret (v:=.agg #[.int .i64 0,.int .i64 (-1)]) (by simp[results,Tryz.results70,go_sem,c0,c1]) rfl ?_;rw[HP.out,HS.out,if_pos (by omega)];exact⟨rfl,(hw1.setCell (by simp) _).setCell (by simp) _⟩
theorem powerOf_any(k:Nat)(w:World)(hk:k<16) :
 Calls Tryz.prog 121 #[.int .i64 ((k:Int)+1)] w fun e w'=>e=.returned (.int .i64 (pw k))∧w=w':=by
 go_enter Tryz.func121,Tryz.ntmps121;go_wp2;go_loop [3,4] (fun p i=>∃j:Nat,j≤k∧i=.int .i64 ((j:Int)+1)∧p=.int .i64 (pw j)) (fun _ i=>17-(intOf i).toNat)
 case atStart=>exact⟨0,Nat.zero_le _,by simp,by simp[pw]⟩
 case round=>
  obtain⟨j,hj,rfl,rfl⟩:=hrel;have hp:=pw_le (k:=j) (by omega);have HS:=Lib.hid (pw_succ j)
  by_cases hlt:j<k
  ·go_wp2
   go_round
   case rel=>exact⟨j+1,by omega,by go_num,by rw[HS.out];go_num⟩
   case measure=>simp[intOf];omega
  ·obtain rfl:j=k:=by omega
   go_wp2;go_ret;exact⟨rfl,rfl⟩
def inB(l:List Int)(i:Nat):Bool:=decide (((i:Int)+1)∈l)
def crewF(l:List Int):Int×Nat×Int:=if badIdx 0 l<0 then(crewOf l,0,-1) else(0,4,badIdx 0 l)
set_option maxRecDepth 100000 in
set_option maxHeartbeats 800000 in
theorem refCrewOf_any(a:Option Addr)(n cap:Nat)(l:List Int)(w:World)(hn:l.length=n)(hr:RowAt w a (encInts l))(hc:n≤4611686018427387904) :
 Calls Tryz.prog 71 #[.slice a n cap] w fun e w'=>e=.returned (.tuple #[.int .i64 (crewF l).1,.agg #[.int .i64 (crewF l).2.1,.int .i64 (crewF l).2.2]])∧Below w.heap.size w w':=by
 have HN:=Lib.hid hn;have hw0:Below w.heap.size w (w.alloc (.cells #[.int .i64 0,.int .i64 0] 55)):=(Below.refl _ _).alloc (Nat.le_refl _) _;have HR:=Lib.hid (hr.below hw0);clear hn hw0;go_enter Tryz.func71,Tryz.ntmps71;go_wp2;go_loop [4] (fun i=>∃k:Nat,k≤n∧i=.int .i64 k∧Hid (badIdx k (l.drop k)=badIdx 0 l)) (fun i=>n-(intOf i).toNat)
 case atStart=>exact⟨0,Nat.zero_le _,rfl,rfl⟩
 case round=>
  obtain⟨k,hk,rfl,HK⟩:=hrel
  by_cases hlt:k<n
  ·have hkt:k<l.length:=by have:=HN.out;omega
   obtain⟨b,off,rfl,hbl,c0⟩:=HR.out.int k hkt;have hdr:l.drop k=l[k]::l.drop (k+1):=List.drop_eq_getElem_cons hkt;have hi0:(0:Int)≤(k:Int):=by omega
   have hi1:(k:Int)<(n:Int):=by omega
   generalize l[k]=x at *
   cases hx:nodeB x
   ·have HS:Hid (badIdx 0 l=k):=by unfold Hid at HK ⊢;rw[←HK,hdr,badIdx,hx];rfl
    have HX:=Lib.hid hx;clear hdr hx HK;go_wp2_with (go_at_call 119;refine(isNode_any _ _).mono ?_;rintro e w1⟨rfl,rfl⟩;rw[HX.out]);refine bodyPost_ret (v:=.tuple #[.int .i64 0,.agg #[.int .i64 4,.int .i64 k]]) (by simp[results,Tryz.results71,go_sem]) rfl ?_;rw[crewF,HS.out,if_neg (by omega)];exact⟨rfl,(Below.refl _ _).alloc (Nat.le_refl _) _⟩
   ·have HS:Hid (badIdx (k+1:Nat) (l.drop (k+1))=badIdx 0 l):=by unfold Hid at HK ⊢;rw[←HK,hdr,badIdx,hx];rfl
    have HX:=Lib.hid hx;clear hdr hx HK;go_wp2_with (go_at_call 119;refine(isNode_any _ _).mono ?_;rintro e w1⟨rfl,rfl⟩;rw[HX.out]);go_round
    case rel=>exact⟨k+1,by omega,by go_num,HS⟩
    case measure=>simp[intOf];omega
  ·have HS:Hid (badIdx 0 l=-1):=by unfold Hid at HK ⊢;rw[←HK,List.drop_eq_nil_of_le (by have:=HN.out;omega)];rfl
   have HC:Hid (sumBits (inB l) 16=crewOf l):=crewOf_sum ((badIdx_neg l 0 (by omega)).1 (by rw[HS.out];omega));clear HK;go_wp2;go_loop [6,7] (fun c i=>∃j:Nat,j≤16∧i=.int .i64 ((j:Int)+1)∧c=.int .i64 (sumBits (inB l) j)) (fun _ i=>18-(intOf i).toNat)
   case atStart=>exact⟨0,Nat.zero_le _,by simp,by simp[sumBits]⟩
   case round=>
    obtain⟨j,hj,rfl,rfl⟩:=hrel
    by_cases hlt:j<16
    ·have hp:=pw_le (k:=j) (by omega)
     have hs:sumBits (inB l) j≤65536:=by
      have:=sumBits_lt (inB l) j;have h2:=Nat.pow_le_pow_right (n:=2) (by omega) (show j≤16 by omega);simp only[Nat.reducePow] at h2;omega
     have HS2:Hid (sumBits (inB l) (j+1)=sumBits (inB l) j+if decide (((j:Int)+1)∈l) then pw j else 0):=rfl
     cases hm:decide (((j:Int)+1)∈l)
     all_goals
      rw[hm] at HS2;have HM:=Lib.hid hm;clear hm;generalize sumBits (inB l) j=S at *
      go_wp2_with (first
       | (go_at_call 120;refine(inInts_any _ _ _ _ l _ HN.out HR.out hc).mono ?_;rintro e w1⟨rfl,rfl⟩;rw[HM.out])
       | (go_at_call 121;refine(powerOf_any _ _ hlt).mono ?_;rintro e w1⟨rfl,rfl⟩))
      go_round
      case rel=>exact⟨j+1,by omega,by go_num,by rw[HS2.out];first|rfl|(rw[if_pos rfl];go_num)⟩
      case measure=>simp[intOf];omega
    ·obtain rfl:j=16:=by omega
     rw[HC.out];go_wp2_with (go_at_call 64;refine(fine_any _).mono ?_;rintro e w1⟨rfl,hb⟩;obtain⟨c0,c1,f0,f1,z1,hw1⟩:=own2 hb);refine bodyPost_ret (v:=.tuple #[.int .i64 (crewOf l),.agg #[.int .i64 0,.int .i64 (-1)]]) (by simp[results,Tryz.results71,go_sem,c0,c1]) rfl ?_;rw[crewF,HS.out,if_pos (by omega)];exact⟨rfl,(hw1.setCell (by simp) _).setCell (by simp) _⟩
end Go.Proofs.YtppfkokfnoeopaaGreatDoor
