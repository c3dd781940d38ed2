/- A part of a proof. -/
import Derived.Test.YtppfkokfnoeopaaGreatDoorDFold
import Derived.Test.YtppfkokfnoeopaaGreatDoorDRefPlan
import Derived.Test.YtppfkokfnoeopaaGreatDoorDRefCut
import Derived.Test.YtppfkokfnoeopaaGreatDoorDRefNum
namespace Go.Proofs.YtppfkokfnoeopaaGreatDoor
open Go.RowKit
theorem ten19:(10:Nat)^19=10000000000000000000:=by decide
set_option maxRecDepth 100000 in
theorem byte_any(n:Nat)(w:World)(hn:n<256) :
 Calls Tryz.prog 153 #[.int .i64 n] w fun e w'=>e=.returned (.string ⟨#[UInt8.ofNat n]⟩)∧Below w.heap.size w w':=by
 have hx:(UInt8.ofNat n).toNat=n:=by rw[UInt8.toNat_ofNat'];exact Nat.mod_eq_of_lt hn
 have hrun:=run_convert_bytes_back (P:=Tryz.prog) (w.alloc (.cells #[.int .u8 n] 5)) 102 9 5 ⟨w.heap.size,0,none⟩ 1 [UInt8.ofNat n] Tryz.underlying102 Tryz.underlying5 Tryz.underlying9 (fun j hj=>by
  obtain rfl:j=0:=by simpa using hj
  simp[hx,Addr.add])
 clear hx;simp only[List.length_cons,List.length_nil,Nat.zero_add] at hrun;go_enter Tryz.func153,Tryz.ntmps153;go_wp2;go_ret;exact⟨rfl,(Below.refl _ _).alloc (Nat.le_refl _) _⟩
set_option maxRecDepth 100000 in
theorem below_any:∀(m:Nat) (w:World),m≤9223372036854775808→Calls Tryz.prog 104 #[.int .i64 (-(m:Int))] w fun e w'=>e=.returned (.string ⟨(Lib.decDigits m).toArray⟩)∧Below w.heap.size w w':=by
 intro m
 induction m using Nat.strongRecOn with
 | _ m ih=>
  intro w hm
  by_cases h:m<10
  ·have HD:Hid (Lib.decDigits m=[UInt8.ofNat (48+m)]):=decDigits_small h
   have K:=Lib.hid (byte_any (48+m) w (by omega));rw[show((48+m:Nat):Int)=48+(m:Int) by omega] at K;have h1:(-10:Int) < -(m:Int):=by omega
   generalize UInt8.ofNat (48+m)=ch at *;clear ih hm;go_enter Tryz.func104,Tryz.ntmps104;go_wp2_with fail;refine K.out.mono ?_;rintro e w1⟨rfl,hb1⟩;go_wp2;go_ret;exact⟨by rw[HD.out];rfl,hb1⟩
  ·obtain⟨q,r,hq,hr,hqm⟩:∃q r:Nat,m=10*q+r∧r<10∧q<m:=⟨m/10,m%10,by omega,by omega,by omega⟩
   have HD:Hid (Lib.decDigits m=Lib.decDigits q++[UInt8.ofNat (48+r)]):=by unfold Hid;rw[decDigits_big h,show m/10=q by omega,show m%10=r by omega]
   have HL:Hid ((Lib.decDigits q).length≤19):=(digits_le q 19 (by omega)).2 (by rw[ten19];omega);have KI:=Lib.hid (ih q hqm w (by omega));have KB:=Lib.hid (fun(W:World)=>byte_any (48+r) W (by omega));rw[show((48+r:Nat):Int)=48+(r:Int) by omega] at KB;have e2:(-(m:Int)).tdiv 10=-(q:Int):=by rw[Int.neg_tdiv,hq];congr 1;rw[Int.tdiv_eq_ediv_of_nonneg (by omega)];omega
   have e3:(-(m:Int)).tmod 10=-(r:Int):=by rw[Int.neg_tmod,hq];congr 1;rw[Int.tmod_eq_emod_of_nonneg (by omega)];omega
   have h1:¬(-10:Int) < -(m:Int):=by omega
   have h1':decide ((-10:Int) < -(m:Int))=false:=by simpa using h1
   have b0 : -9223372036854775808≤-(m:Int):=by omega
   have b1 : -(m:Int)≤0:=by omega
   clear ih hm hq h;generalize Lib.decDigits q=dq at *;generalize UInt8.ofNat (48+r)=ch at *;have c1:=ba_append dq [ch];have HLL:=HL.out;go_enter Tryz.func104,Tryz.ntmps104;go_wp2_with fail;refine KI.out.mono ?_;rintro e w1⟨rfl,hb1⟩;go_wp2_with fail;refine(KB.out _).mono ?_;rintro e w2⟨rfl,hb2⟩;go_wp2;go_ret;exact⟨by rw[HD.out];rfl,hb1.trans (hb2.mono hb1.size)⟩
theorem decimal_any(n:Int)(w:World)(h0 : -9223372036854775808≤n∧n≤9223372036854775807) :
 Calls Tryz.prog 52 #[.int .i64 n] w fun e w'=>e=.returned (.string ⟨(Lib.itoa n).toArray⟩)∧Below w.heap.size w w':=by
 by_cases hn:n<0
 ·obtain⟨m,rfl⟩:∃m:Nat,n=-(m:Int):=⟨n.natAbs,by omega⟩
  have HD:=Lib.hid (Lib.itoa_neg m (by omega));have HL:=(digits_le m 19 (by omega)).2 (by rw[ten19];omega);have K:=Lib.hid (below_any m w (by omega));generalize Lib.decDigits m=dm at *;have c1:=ba_append [45] dm;clear h0;go_enter Tryz.func52,Tryz.ntmps52;go_wp2_with fail;refine K.out.mono ?_;rintro e w1⟨rfl,hb1⟩;go_wp2;go_ret;exact⟨by rw[HD.out];rfl,hb1⟩
 ·obtain⟨m,rfl⟩:∃m:Nat,n=(m:Int):=⟨n.toNat,by omega⟩
  have HD:=Lib.hid (Lib.itoa_nonneg m);have K:=Lib.hid (below_any m w (by omega));have h1:(m:Int)≤9223372036854775807:=h0.2;clear h0;go_enter Tryz.func52,Tryz.ntmps52;go_wp2_with fail;refine K.out.mono ?_;rintro e w1⟨rfl,hb1⟩;go_wp2;go_ret;exact⟨by rw[HD.out];rfl,hb1⟩
set_option maxRecDepth 100000 in
set_option maxHeartbeats 800000 in
theorem listOf_own(c:Int)(w:World) :
 Calls Tryz.prog 72 #[.int .i64 c] w fun e w'=>∃ao n co,e=.returned (.slice ao n co)∧w'.ownsRow w.heap.size 3 1 (.slice ao n co) n (encInts (listTo c 16))∧(listTo c 16).length=n∧n≤co∧Below w.heap.size w w':=by
 obtain⟨i0,hi,hz0,hz1,hz2⟩:=info_parts info_int;have hi':=Lib.hid hi;have hz0':=Lib.hid hz0;have hz1':=Lib.hid hz1;have hz2':=Lib.hid hz2;clear hi hz0 hz1 hz2;have KH:=Lib.hid (fun(k:Nat) (W:World)=>refHas_any c ((k:Int)+1) W);go_enter Tryz.func72,Tryz.ntmps72;go_wp2;go_loopw [3,4] (fun v i wr=>∃k:Nat,k≤16∧i=.int .i64 ((k:Int)+1)∧wr.ownsRow w.heap.size 3 1 v (listTo c k).length (encInts (listTo c k))∧Below w.heap.size w wr) (fun _ i _=>18-(intOf i).toNat)
 case atStart=>exact⟨0,Nat.zero_le _,rfl,World.ownsRow_nil _ _ _ _,Below.refl _ _⟩
 case round=>
  obtain⟨k,hk,rfl,hown,hb⟩:=hrel
  by_cases hlt:k<16
  ·have K:=Lib.hid (fun(W:World)=>KH.out k W)
   have hll:=listTo_length c k
   cases hh:hasB c ((k:Int)+1)
   ·have HS:=Lib.hid (listTo_no hh)
    rw[hh] at K;clear hh;go_wp2_with fail;refine(K.out _).mono ?_;rintro e w1⟨rfl,rfl⟩;go_wp2;go_roundw
    case rel=>exact⟨k+1,by omega,by go_num,by rw[HS.out];exact hown,hb⟩
    case measure=>simp[intOf];omega
   ·have HS:=Lib.hid (listTo_yes hh)
    rw[hh] at K;clear hh;have HO:=Lib.hid (hown.alloc (.cells #[.int .i64 ((k:Int)+1)] 3));have HW:=Lib.hid (RowAt.new_at wr [.int .i64 ((k:Int)+1)] 3 _ rfl);have HV:=Lib.hid (hb.alloc hb.size (.cells #[.int .i64 ((k:Int)+1)] 3));generalize hL:listTo c k=L at *;clear hown hL;go_wp2_with fail;refine(K.out _).mono ?_;rintro e w1⟨rfl,rfl⟩;go_wp2_with (at_builtin;refine wpList_append2 _ rfl (.tmp 14) (.tmp 16) 72 rfl w.heap.size 3 i0 _ 1 8 Tryz.underlying72 hi'.out hz0'.out hz1'.out hz2'.out rfl (by decide) _ L.length (encInts L) rfl HO.out (some ⟨wr.heap.size,0,none⟩) 1 1 [.int .i64 ((k:Int)+1)] rfl rfl HW.out ?_ ?_ ?_ ?_ ?_;(simp[Value.oneCell']);(unfold maxLen;omega);(omega);(exact HV.out.size);intro v1 w5 ho1 hg1 hq hm1;clear hq hm1);go_roundw
    case rel=>exact⟨k+1,by omega,by go_num,by rw[HS.out,List.length_append];simpa[encInts] using ho1,HV.out.grown hg1 HV.out.size (fun j e=>(HO.out.lt j e).1)⟩
    case measure=>simp[intOf];omega
  ·obtain rfl:k=16:=by omega
   obtain⟨ao,co,rfl⟩:=owned_shape hown;obtain⟨_,_,na,_⟩:=RowAt.owned hown;go_wp2;go_ret;exact⟨ao,_,co,rfl,hown,rfl,na,hb⟩
theorem listOf_any(c:Int)(w:World) :
 Calls Tryz.prog 72 #[.int .i64 c] w fun e w'=>∃ao n co,e=.returned (.slice ao n co)∧RowAt w' ao (encInts (listTo c 16))∧(listTo c 16).length=n∧n≤co∧Below w.heap.size w w':=
 (listOf_own c w).mono fun _ _ ⟨ao,n,co,h1,h2,h3,h4,h5⟩=>⟨ao,n,co,h1,(RowAt.owned h2).1,h3,h4,h5⟩
def nodP(l:List Int)(k:Nat):List UInt8:=joinL 44 ((l.take k).map Lib.itoa)
theorem nodP_one(l:List Int)(h:0<l.length):nodP l 1=Lib.itoa l[0]:=by rw[nodP,List.take_succ_eq_append_getElem h];rfl
theorem nodP_succ(l:List Int)(k:Nat)(hk:k<l.length)(h0:0<k):nodP l (k+1)=nodP l k++([44]++Lib.itoa l[k]):=by
 rw[nodP,List.take_succ_eq_append_getElem hk,List.map_append,List.map_cons,List.map_nil,joinL_snoc]
 ·rfl
 ·intro e
  have:=congrArg List.length e;simp only[List.length_map,List.length_take,List.length_nil] at this;omega
theorem nodP_len(l:List Int)(hl:∀x∈l,1≤x∧x≤16)(h16:l.length≤16)(k:Nat):(nodP l k).length≤400:=by
 rw[nodP,←join_joinL];refine Nat.le_trans (join_short _ (fun x hx=>?_)) (by rw[List.length_map,List.length_take];omega);obtain⟨e,he,rfl⟩:=List.mem_map.1 hx;have:=hl e (List.mem_of_mem_take he);have:=Lib.itoa_length_le e (by omega) (by omega);omega
theorem textF_not{c:Int}(h:crewB c=false):textF c=[]:=by rw[textF,if_neg (by simp[h])]
theorem textF_zero:textF 0=[45]:=by decide
theorem textF_nodP{c:Int}(h:crewB c=true)(h0:c≠0):textF c=nodP (listTo c 16) (listTo c 16).length:=by
 rw[textF,if_pos h,if_neg h0,nodP,List.take_length,join_joinL]
theorem run_adds'(a b:List UInt8)(h:a.length+b.length≤9223372036854775807)(W:World):(Op.stringOp .add ⟨a.toArray⟩ ⟨b.toArray⟩).run Tryz.prog W=.ok (.string ⟨(a++b).toArray⟩) W:=by
 rw[run_string_add_sum _ _ _ (by simp[ByteArray.size];omega)];exact congrArg (fun z=>Result.ok (Value.string z) W) (ba_append a b)
set_option maxRecDepth 100000 in
set_option maxHeartbeats 1600000 in
theorem crewText_any(c:Int)(w:World) :
 Calls Tryz.prog 88 #[.int .i64 c] w fun e w'=>e=.returned (.string ⟨(textF c).toArray⟩)∧Below w.heap.size w w':=by
 have KC:=Lib.hid (fun(W:World)=>isCrew_any c W)
 cases hc:crewB c
 ·have HF:=Lib.hid (textF_not hc)
  rw[hc] at KC;clear hc;go_enter Tryz.func88,Tryz.ntmps88;go_wp2_with fail;refine(KC.out _).mono ?_;rintro e w1⟨rfl,rfl⟩;go_wp2;go_ret;exact⟨by rw[HF.out];rfl,Below.refl _ _⟩
 ·by_cases h0:c=0
  ·subst h0
   have HF:=Lib.hid textF_zero;rw[hc] at KC;clear hc;go_enter Tryz.func88,Tryz.ntmps88;go_wp2_with fail;refine(KC.out _).mono ?_;rintro e w1⟨rfl,rfl⟩;go_wp2;go_ret;exact⟨by rw[HF.out];rfl,Below.refl _ _⟩
  ·have HF:=Lib.hid (textF_nodP hc h0)
   have hz:(c==0)=false:=by simpa using h0
   have KL:=Lib.hid (fun(W:World)=>listOf_any c W);have hmem:=listTo_mem c 16 (Nat.le_refl _);have hll:=listTo_length c 16;rw[hc] at KC;generalize listTo c 16=L at *;have HLen:=Lib.hid (fun k=>nodP_len L (fun x hx=>by have:=hmem x hx;omega) hll k);have HMem:=Lib.hid hmem;have HS:=Lib.hid (fun k hk h0=>nodP_succ L k hk h0);have HO:=Lib.hid (fun hk=>nodP_one L hk);clear hc h0 hmem;go_enter Tryz.func88,Tryz.ntmps88;go_wp2_with fail;refine(KC.out _).mono ?_;rintro e w1⟨rfl,rfl⟩;go_wp2_with fail;refine(KL.out _).mono ?_;rintro e w2⟨ao,n,co,rfl,hr,hn,hco,hb2⟩;have HN:=Lib.hid hn;clear hn;go_wp2;go_loopw [4,6] (fun v i wr=>∃k:Nat,k≤n∧i=.int .i64 k∧v=.string ⟨(nodP L k).toArray⟩∧Below w2.heap.size w2 wr) (fun _ i _=>n-(intOf i).toNat)
   case atStart=>exact⟨0,Nat.zero_le _,rfl,rfl,Below.refl _ _⟩
   case round=>
    obtain⟨k,hk,rfl,rfl,hb⟩:=hrel
    by_cases hlt:k<n
    ·have hk1:k<L.length:=by have:=HN.out;omega
     obtain⟨b,off,rfl,hbl,c0⟩:=(hr.below hb).int k hk1;have hmk:=HMem.out L[k] (List.getElem_mem hk1);have hi0:(0:Int)≤(k:Int):=by omega
     have hi1:(k:Int)<(n:Int):=by omega
     have hl1:=HLen.out k
     have HX:Hid (nodP L (k+1)=nodP L k++((if k=0 then[] else[44])++Lib.itoa L[k])):=by
      unfold Hid
      by_cases hk0:k=0
      ·subst hk0;rw[if_pos rfl,HO.out hk1];rfl
      ·rw[if_neg hk0,HS.out k hk1 (by omega)]
     generalize L[k]=x at *;have hil:=Lib.itoa_length_le x (by omega) (by omega);have K1:=Lib.hid (fun(W:World)=>decimal_any x W (by omega));generalize Lib.itoa x=t1 at *;generalize nodP L k=P at *;have a1:=run_adds' P [44] (by simp;omega)
     by_cases hk0:k=0
     ·rw[if_pos hk0] at HX
      have hd:decide ((0:Int)<(k:Int))=false:=by simp;omega
      have hd':decide (0<k)=false:=by simp;omega
      clear hk0;go_wp2_with fail;refine(K1.out _).mono ?_;rintro e1 w3⟨rfl,hb3⟩;go_wp2;go_roundw
      case rel=>exact⟨k+1,by omega,by go_num,by rw[HX.out];first|(simp;done)|exact congrArg Value.string ((ba_append _ t1).trans (by simp)),hb.trans (hb3.mono hb.size)⟩
      case measure=>simp[intOf];omega
     ·rw[if_neg hk0] at HX
      have hd:(0:Int)<(k:Int):=by omega
      have hd':decide (0<k)=true:=by simp;omega
      clear hk0;go_wp2_with fail;refine(K1.out _).mono ?_;rintro e1 w3⟨rfl,hb3⟩;go_wp2;go_roundw
      case rel=>exact⟨k+1,by omega,by go_num,by rw[HX.out];first|(simp;done)|exact congrArg Value.string ((ba_append _ t1).trans (by simp)),hb.trans (hb3.mono hb.size)⟩
      case measure=>simp[intOf];omega
    ·obtain rfl:k=n:=by omega
     go_wp2;go_ret;exact⟨by rw[HF.out,HN.out];rfl,hb2.trans (hb.mono hb2.size)⟩
end Go.Proofs.YtppfkokfnoeopaaGreatDoor
