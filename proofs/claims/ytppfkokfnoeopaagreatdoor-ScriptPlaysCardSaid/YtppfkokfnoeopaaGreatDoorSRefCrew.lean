/- A part of a proof. -/
import Derived.Test.YtppfkokfnoeopaaGreatDoorSFold
import Derived.Test.YtppfkokfnoeopaaGreatDoorSRPlan
import Derived.Test.YtppfkokfnoeopaaGreatDoorSRefCut
import Derived.Test.YtppfkokfnoeopaaGreatDoorSRefNum
set_option maxRecDepth 400000
set_option maxHeartbeats 6400000
namespace Go.Proofs.YtppfkokfnoeopaaGreatDoor
open Go.RowKit Go.Proofs.Tryz
theorem zHo:(10:Nat)^19=10000000000000000000:=by decide
theorem Xd(n:Nat)(w:World)(hn:n<256) :
 Calls prog 153 #[.int .i64 n] w fun e w'=>e=.returned (.string ⟨#[UInt8.ofNat n]⟩)∧Below w.heap.size w w':=by
 have hx:(UInt8.ofNat n).toNat=n:=by rw[UInt8.toNat_ofNat'];exact Nat.mod_eq_of_lt hn
 have hrun:=run_convert_bytes_back (P:=prog) (w.alloc (.cells #[.int .u8 n] 5)) 102 9 5 ⟨w.heap.size,0,none⟩ 1 [UInt8.ofNat n] underlying102 underlying5 underlying9 (fun j hj=>by
  obtain rfl:j=0:=by simpa using hj
  simp[hx,Addr.add])
 clear hx;simp only[List.length_cons,List.length_nil,Nat.zero_add] at hrun;go_enter func153,ntmps153;go_wp2;go_ret;exact⟨rfl,zb.alloc zl _⟩
theorem Ui:∀(m:Nat) (w:World),m≤9223372036854775808→Calls prog 104 #[.int .i64 (-(m:Int))] w fun e w'=>e=.returned (.string ⟨(Lib.decDigits m).toArray⟩)∧Below w.heap.size w w':=by
 intro m
 induction m using Nat.strongRecOn with
 | _ m ih=>
  intro w hm
  by_cases h:m<10
  ·have HD:Hid (Lib.decDigits m=[UInt8.ofNat (48+m)]):=Cj h
   have K:=zh (Xd (48+m) w (by omega));rw[show((48+m:Nat):Int)=48+(m:Int) by omega] at K;have h1:(-10:Int) < -(m:Int):=by omega
   generalize UInt8.ofNat (48+m)=ch at *;clear ih hm;go_enter func104,ntmps104;go_wp2_with fail;refine K.out.mono ?_;rintro e w1⟨rfl,hb1⟩;go_wp2;go_ret;exact⟨by rw[HD.out];rfl,hb1⟩
  ·obtain⟨q,r,hq,hr,hqm⟩:∃q r:Nat,m=10*q+r∧r<10∧q<m:=⟨m/10,m%10,by omega,by omega,by omega⟩
   have HD:Hid (Lib.decDigits m=Lib.decDigits q++[UInt8.ofNat (48+r)]):=by unfold Hid;rw[Ed h,show m/10=q by omega,show m%10=r by omega]
   have HL:Hid ((Lib.decDigits q).length≤19):=(Dg q 19 (by omega)).2 (by rw[zHo];omega);have KI:=zh (ih q hqm w (by omega));have KB:=zh (fun(W:World)=>Xd (48+r) W (by omega));rw[show((48+r:Nat):Int)=48+(r:Int) by omega] at KB;have e2:(-(m:Int)).tdiv 10=-(q:Int):=by rw[Int.neg_tdiv,hq];congr 1;rw[Int.tdiv_eq_ediv_of_nonneg (by omega)];omega
   have e3:(-(m:Int)).tmod 10=-(r:Int):=by rw[Int.neg_tmod,hq];congr 1;rw[Int.tmod_eq_emod_of_nonneg (by omega)];omega
   have h1:¬(-10:Int) < -(m:Int):=by omega
   have h1':decide ((-10:Int) < -(m:Int))=false:=by simpa using h1
   have b0 : -9223372036854775808≤-(m:Int):=by omega
   have b1 : -(m:Int)≤0:=by omega
   clear ih hm hq h;generalize Lib.decDigits q=dq at *;generalize UInt8.ofNat (48+r)=ch at *;have c1:=Ba dq [ch];have HLL:=HL.out;go_enter func104,ntmps104;go_wp2_with fail;refine KI.out.mono ?_;rintro e w1⟨rfl,hb1⟩;go_wp2_with fail;refine(KB.out _).mono ?_;rintro e w2⟨rfl,hb2⟩;go_wp2;go_ret;exact⟨by rw[HD.out];rfl,hb1.trans (hb2.mono hb1.size)⟩
theorem Cp(n:Int)(w:World)(h0 : -9223372036854775808≤n∧n≤9223372036854775807) :
 Calls prog 52 #[.int .i64 n] w fun e w'=>e=.returned (.string ⟨(Lib.itoa n).toArray⟩)∧Below w.heap.size w w':=by
 by_cases hn:n<0
 ·obtain⟨m,rfl⟩:∃m:Nat,n=-(m:Int):=⟨n.natAbs,by omega⟩
  have HD:=zh (Lib.itoa_neg m (by omega));have HL:=(Dg m 19 (by omega)).2 (by rw[zHo];omega);have K:=zh (Ui m w (by omega));generalize Lib.decDigits m=dm at *;have c1:=Ba [45] dm;clear h0;go_enter func52,ntmps52;go_wp2_with fail;refine K.out.mono ?_;rintro e w1⟨rfl,hb1⟩;go_wp2;go_ret;exact⟨by rw[HD.out];rfl,hb1⟩
 ·obtain⟨m,rfl⟩:∃m:Nat,n=(m:Int):=⟨n.toNat,by omega⟩
  have HD:=zh (Lib.itoa_nonneg m);have K:=zh (Ui m w (by omega));have h1:(m:Int)≤9223372036854775807:=h0.2;clear h0;go_enter func52,ntmps52;go_wp2_with fail;refine K.out.mono ?_;rintro e w1⟨rfl,hb1⟩;go_wp2;go_ret;exact⟨by rw[HD.out];rfl,hb1⟩
theorem Nc(c:Int)(w:World) :
 Calls prog 72 #[.int .i64 c] w fun e w'=>∃ao n co,e=.returned (.slice ao n co)∧w'.ownsRow w.heap.size 3 1 (.slice ao n co) n (Aa (Ao c 16))∧(Ao c 16).length=n∧n≤co∧Below w.heap.size w w':=by
 obtain⟨i0,hi,hz0,hz1,hz2⟩:=info_parts Ga;have hi':=zh hi;have hz0':=zh hz0;have hz1':=zh hz1;have hz2':=zh hz2;clear hi hz0 hz1 hz2;have KH:=zh (fun(k:Nat) (W:World)=>Gs c ((k:Int)+1) W);go_enter func72,ntmps72;go_wp2;go_loopw [3,4] (fun v i wr=>∃k:Nat,k≤16∧i=.int .i64 ((k:Int)+1)∧wr.ownsRow w.heap.size 3 1 v (Ao c k).length (Aa (Ao c k))∧Below w.heap.size w wr) (fun _ i _=>18-(intOf i).toNat)
 case atStart=>exact⟨0,Nat.zero_le _,rfl,World.ownsRow_nil _ _ _ _,Below.refl _ _⟩
 case round=>
  obtain⟨k,hk,rfl,hown,hb⟩:=hrel
  by_cases hlt:k<16
  ·have K:=zh (fun(W:World)=>KH.out k W)
   have hll:=Ck c k
   cases hh:Ep c ((k:Int)+1)
   ·have HS:=zh (Pb hh)
    rw[hh] at K;clear hh;go_wp2_with fail;refine(K.out _).mono ?_;rintro e w1⟨rfl,rfl⟩;go_wp2;go_roundw
    case rel=>exact⟨k+1,by omega,by go_num,by rw[HS.out];exact hown,hb⟩
    case measure=>simp[intOf];omega
   ·have HS:=zh (Nd hh)
    rw[hh] at K;clear hh;have HO:=zh (hown.alloc (.cells #[.int .i64 ((k:Int)+1)] 3));have HW:=zh (Ac.new_at wr [.int .i64 ((k:Int)+1)] 3 _ rfl);have HV:=zh (hb.alloc hb.size (.cells #[.int .i64 ((k:Int)+1)] 3));generalize hL:Ao c k=L at *;clear hown hL;go_wp2_with fail;refine(K.out _).mono ?_;rintro e w1⟨rfl,rfl⟩;go_wp2_with (at_builtin;refine Ag _ rfl (.tmp 14) (.tmp 16) 72 rfl w.heap.size 3 i0 _ 1 8 underlying72 hi'.out hz0'.out hz1'.out hz2'.out rfl (by decide) _ L.length (Aa L) rfl HO.out (some ⟨wr.heap.size,0,none⟩) 1 1 [.int .i64 ((k:Int)+1)] rfl rfl HW.out ?_ ?_ ?_ ?_ ?_;(simp[Value.oneCell']);(unfold maxLen;omega);(omega);(exact HV.out.size);intro v1 w5 ho1 hg1 hq hm1;clear hq hm1);go_roundw
    case rel=>exact⟨k+1,by omega,by go_num,by rw[HS.out,List.length_append];simpa[Aa] using ho1,HV.out.grown hg1 HV.out.size (fun j e=>(HO.out.lt j e).1)⟩
    case measure=>simp[intOf];omega
  ·obtain rfl:k=16:=by omega
   obtain⟨ao,co,rfl⟩:=Aj hown;obtain⟨_,_,na,_⟩:=Ac.owned hown;go_wp2;go_ret;exact⟨ao,_,co,rfl,hown,rfl,na,hb⟩
theorem zAb(c:Int)(w:World) :
 Calls prog 72 #[.int .i64 c] w fun e w'=>∃ao n co,e=.returned (.slice ao n co)∧Ac w' ao (Aa (Ao c 16))∧(Ao c 16).length=n∧n≤co∧Below w.heap.size w w':=
 (Nc c w).mono fun _ _ ⟨ao,n,co,h1,h2,h3,h4,h5⟩=>⟨ao,n,co,h1,(Ac.owned h2).1,h3,h4,h5⟩
def Pe(l:List Int)(k:Nat):List UInt8:=Cv 44 ((l.take k).map Lib.itoa)
theorem zGo(l:List Int)(h:0<l.length):Pe l 1=Lib.itoa l[0]:=by rw[Pe,List.take_succ_eq_append_getElem h];rfl
theorem zC8(l:List Int)(k:Nat)(hk:k<l.length)(h0:0<k):Pe l (k+1)=Pe l k++([44]++Lib.itoa l[k]):=by
 rw[Pe,List.take_succ_eq_append_getElem hk,List.map_append,List.map_cons,List.map_nil,Kn]
 ·rfl
 ·intro e
  have:=congrArg List.length e;simp only[List.length_map,List.length_take,List.length_nil] at this;omega
theorem zGn(l:List Int)(hl:∀x∈l,1≤x∧x≤16)(h16:l.length≤16)(k:Nat):(Pe l k).length≤400:=by
 rw[Pe,←Et];refine Nat.le_trans (Ko _ (fun x hx=>?_)) (by rw[List.length_map,List.length_take];omega);obtain⟨e,he,rfl⟩:=List.mem_map.1 hx;have:=hl e (List.mem_of_mem_take he);have:=Lib.itoa_length_le e (by omega) (by omega);omega
theorem zEe{c:Int}(h:Bn c=false):Db c=[]:=by rw[Db,if_neg (by simp[h])]
theorem zA8:Db 0=[45]:=by decide
theorem zA7{c:Int}(h:Bn c=true)(h0:c≠0):Db c=Pe (Ao c 16) (Ao c 16).length:=by
 rw[Db,if_pos h,if_neg h0,Pe,List.take_length,Et]
theorem D5(a b:List UInt8)(h:a.length+b.length≤9223372036854775807)(W:World):(Op.stringOp .add ⟨a.toArray⟩ ⟨b.toArray⟩).run prog W=.ok (.string ⟨(a++b).toArray⟩) W:=by
 rw[run_string_add_sum _ _ _ (by simp[ByteArray.size];omega)];exact congrArg (fun z=>Result.ok (Value.string z) W) (Ba a b)
theorem Ki(c:Int)(w:World) :
 Calls prog 88 #[.int .i64 c] w fun e w'=>e=.returned (.string ⟨(Db c).toArray⟩)∧Below w.heap.size w w':=by
 have KC:=zh (fun(W:World)=>Km c W)
 cases hc:Bn c
 ·have HF:=zh (zEe hc)
  rw[hc] at KC;clear hc;go_enter func88,ntmps88;go_wp2_with fail;refine(KC.out _).mono ?_;rintro e w1⟨rfl,rfl⟩;go_wp2;go_ret;exact⟨by rw[HF.out];rfl,Below.refl _ _⟩
 ·by_cases h0:c=0
  ·subst h0
   have HF:=zh zA8;rw[hc] at KC;clear hc;go_enter func88,ntmps88;go_wp2_with fail;refine(KC.out _).mono ?_;rintro e w1⟨rfl,rfl⟩;go_wp2;go_ret;exact⟨by rw[HF.out];rfl,Below.refl _ _⟩
  ·have HF:=zh (zA7 hc h0)
   have hz:(c==0)=false:=by simpa using h0
   have KL:=zh (fun(W:World)=>zAb c W);have hmem:=Ic c 16 zl;have hll:=Ck c 16;rw[hc] at KC;generalize Ao c 16=L at *;have HLen:=zh (fun k=>zGn L (fun x hx=>by have:=hmem x hx;omega) hll k);have HMem:=zh hmem;have HS:=zh (fun k hk h0=>zC8 L k hk h0);have HO:=zh (fun hk=>zGo L hk);clear hc h0 hmem;go_enter func88,ntmps88;go_wp2_with fail;refine(KC.out _).mono ?_;rintro e w1⟨rfl,rfl⟩;go_wp2_with fail;refine(KL.out _).mono ?_;rintro e w2⟨ao,n,co,rfl,hr,hn,hco,hb2⟩;have HN:=zh hn;clear hn;go_wp2;go_loopw [4,6] (fun v i wr=>∃k:Nat,k≤n∧i=.int .i64 k∧v=.string ⟨(Pe L k).toArray⟩∧Below w2.heap.size w2 wr) (fun _ i _=>n-(intOf i).toNat)
   case atStart=>exact⟨0,Nat.zero_le _,rfl,rfl,Below.refl _ _⟩
   case round=>
    obtain⟨k,hk,rfl,rfl,hb⟩:=hrel
    by_cases hlt:k<n
    ·have hk1:k<L.length:=by have:=HN.out;omega
     obtain⟨b,off,rfl,hbl,c0⟩:=(hr.below hb).int k hk1;have hmk:=HMem.out L[k] (List.getElem_mem hk1);have hi0:(0:Int)≤(k:Int):=by omega
     have hi1:(k:Int)<(n:Int):=by omega
     have hl1:=HLen.out k
     have HX:Hid (Pe L (k+1)=Pe L k++((if k=0 then[] else[44])++Lib.itoa L[k])):=by
      unfold Hid
      by_cases hk0:k=0
      ·subst hk0;rw[if_pos rfl,HO.out hk1];rfl
      ·rw[if_neg hk0,HS.out k hk1 (by omega)]
     generalize L[k]=x at *;have hil:=Lib.itoa_length_le x (by omega) (by omega);have K1:=zh (fun(W:World)=>Cp x W (by omega));generalize Lib.itoa x=t1 at *;generalize Pe L k=P at *;have a1:=D5 P [44] (by simp;omega)
     by_cases hk0:k=0
     ·rw[if_pos hk0] at HX
      have hd:decide ((0:Int)<(k:Int))=false:=by simp;omega
      have hd':decide (0<k)=false:=by simp;omega
      clear hk0;go_wp2_with fail;refine(K1.out _).mono ?_;rintro e1 w3⟨rfl,hb3⟩;go_wp2;go_roundw
      case rel=>exact⟨k+1,by omega,by go_num,by rw[HX.out];first|(simp;done)|exact congrArg Value.string ((Ba _ t1).trans (by simp)),hb.trans (hb3.mono hb.size)⟩
      case measure=>simp[intOf];omega
     ·rw[if_neg hk0] at HX
      have hd:(0:Int)<(k:Int):=by omega
      have hd':decide (0<k)=true:=by simp;omega
      clear hk0;go_wp2_with fail;refine(K1.out _).mono ?_;rintro e1 w3⟨rfl,hb3⟩;go_wp2;go_roundw
      case rel=>exact⟨k+1,by omega,by go_num,by rw[HX.out];first|(simp;done)|exact congrArg Value.string ((Ba _ t1).trans (by simp)),hb.trans (hb3.mono hb.size)⟩
      case measure=>simp[intOf];omega
    ·obtain rfl:k=n:=by omega
     go_wp2;go_ret;exact⟨by rw[HF.out,HN.out];rfl,hb2.trans (hb.mono hb2.size)⟩
end Go.Proofs.YtppfkokfnoeopaaGreatDoor
