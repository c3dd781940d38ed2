/- A part of a proof. -/
import Derived.Test.YtppfkokfnoeopaaGreatDoorDFrameRead
namespace Go.Proofs.YtppfkokfnoeopaaGreatDoor
open Go.RowKit
theorem hasB_ge{c k:Nat}(hc:c<2^k)(hc6:c<65536)(j:Nat)(hj:k≤j)(hj16:j<16):hasB (c:Int) ((j:Int)+1)=false:=by
 rw[hasB_bit c j hc6 hj16];exact Nat.testBit_lt_two_pow (Nat.lt_of_lt_of_le hc (Nat.pow_le_pow_right (by omega) hj))
theorem listTo_stop{c k:Nat}(hc:c<2^k)(hc6:c<65536):∀m,k≤m→m≤16→listTo c m=listTo c k
 | 0,h,_=>by obtain rfl:k=0:=by omega
             rfl
 | m+1,h,hm=>by
  by_cases e:k=m+1
  ·rw[e]
  ·rw[listTo_no (hasB_ge hc hc6 m (by omega) (by omega)),listTo_stop hc hc6 m (by omega) (by omega)]
theorem listTo_congr{c d:Nat}(hc6:c<65536)(hd6:d<65536):∀m,m≤16→(∀j,j<m→c.testBit j=d.testBit j)→listTo c m=listTo d m
 | 0,_,_=>rfl
 | m+1,hm,h=>by
  have ih:=listTo_congr hc6 hd6 m (by omega) (fun j hj=>h j (by omega));rw[listTo,listTo,ih,hasB_bit c m hc6 (by omega),hasB_bit d m hd6 (by omega),h m (by omega)]
theorem list_or{c k:Nat}(hc:c<2^k)(hk:k<16):listTo ((c|||2^k:Nat):Int) 16=listTo c 16++[(k:Int)+1]:=by
 have h16:2^k≤2^15:=Nat.pow_le_pow_right (by omega) (by omega);have hc6:c<65536:=by omega
 have hp:(2:Nat)^k<2^16:=Nat.pow_lt_pow_right (by omega) hk;have hd:c|||2^k<2^(k+1):=Nat.or_lt_two_pow (by rw[Nat.pow_succ];omega) (by rw[Nat.pow_succ];have:=Nat.two_pow_pos k;omega)
 have hd6:c|||2^k<65536:=Nat.or_lt_two_pow (n:=16) (by omega) (by simpa using hp)
 rw[listTo_stop hd hd6 16 (by omega) (Nat.le_refl _),listTo_stop hc hc6 16 (by omega) (Nat.le_refl _)];rw[listTo_yes (by rw[hasB_bit _ k hd6 hk,Nat.testBit_or,Nat.testBit_two_pow];simp)]
 congr 1
 refine listTo_congr hd6 hc6 k (by omega) fun j hj=>?_
 rw[Nat.testBit_or,Nat.testBit_two_pow,show decide (k=j)=false by simp;omega,Bool.or_false]
theorem snoc_ind{α:Type}{p:List α→Prop}(h0:p [])(h1:∀l x,p l→p (l++[x])):∀(n:Nat) (l:List α),l.length=n→p l
 | 0,l,h=>by rw[List.eq_nil_of_length_eq_zero h];exact h0
 | n+1,l,h=>by
  have hne:l≠[]:=fun e=>by rw[e] at h;cases h
  have e:=(List.dropLast_concat_getLast hne).symm;rw[e];exact h1 _ _ (snoc_ind h0 h1 n l.dropLast (by simp[h]))
theorem readAcc_list:∀(l:List (List UInt8)) (c:Nat) (last:Int),readAcc l=some (c,last)→0≤last∧last≤16∧c<2^last.toNat∧l=(listTo c 16).map Lib.itoa:=by
 intro l;refine snoc_ind (p:=fun l=>∀(c:Nat) (last:Int),readAcc l=some (c,last)→0≤last∧last≤16∧c<2^last.toNat∧l=(listTo c 16).map Lib.itoa) ?_ ?_ l.length l rfl
 ·intro c last h
  simp only[readAcc,List.foldl_nil,Option.some.injEq,Prod.mk.injEq] at h;obtain⟨rfl,rfl⟩:=h;exact⟨by omega,by omega,by decide,by decide⟩
 ·intro l x ih c last h
  rw[readAcc_snoc] at h
  cases hl:readAcc l with
  | none=>rw[hl] at h;cases h
  | some p=>
   obtain⟨c0,last0⟩:=p;obtain⟨h1,h2,h3,h4⟩:=ih c0 last0 hl;rw[hl,readStep,Option.bind_some,Option.map_eq_some_iff] at h;obtain⟨n,hn,h⟩:=h;obtain⟨hx,hnode,hlt⟩:=readOk_some hn;simp only[Prod.mk.injEq] at h hlt;obtain⟨rfl,rfl⟩:=h;simp only[nodeB,decide_eq_true_eq] at hnode;obtain⟨k,rfl⟩:∃k:Nat,n=(k:Int)+1:=⟨(n-1).toNat,by omega⟩
   have hck:c0<2^k:=Nat.lt_of_lt_of_le h3 (Nat.pow_le_pow_right (by omega) (by omega));refine⟨by omega,by omega,?_,?_⟩
   ·rw[bitOf_succ,show((k:Int)+1).toNat=k+1 by omega]
    exact Nat.or_lt_two_pow (by rw[Nat.pow_succ];omega) (by rw[Nat.pow_succ];have:=Nat.two_pow_pos k;omega)
   ·rw[bitOf_succ,list_or hck (by omega),List.map_append,←h4,hx];rfl
theorem readF_text{s:List UInt8}{c:Nat}(h:readF s=some c):c<65536∧textF c=s:=by
 unfold readF at h
 split at h
 ·rename_i hs
  injection h with h;subst h;exact⟨by omega,by rw[hs];rfl⟩
 ·rw[Option.map_eq_some_iff] at h
  obtain⟨⟨c',last⟩,hacc,rfl⟩:=h;obtain⟨h1,h2,h3,h4⟩:=readAcc_list _ _ _ hacc;have hc6:c'<65536:=Nat.lt_of_lt_of_le h3 (by have:=Nat.pow_le_pow_right (n:=2) (by omega) (show last.toNat≤16 by omega);simpa using this);have hcb:crewB (c':Int)=true:=by simp only[crewB,decide_eq_true_eq];omega
  refine⟨hc6,?_⟩
  have hne:c'≠0:=fun e=>by
   rw[e] at h4;have:listTo ((0:Nat):Int) 16=[]:=by decide
   rw[this] at h4;exact cutL_ne 44 s h4
  rw[textF,if_pos hcb,if_neg (by omega),←h4,join_joinL,joinL_cutL]
theorem natB_itoa{l:List UInt8}(h:natB l=true):l=Lib.itoa (numN l)∧0≤numN l:=by
 rw[natB,Bool.and_eq_true,decide_eq_true_eq] at h;refine⟨?_,h.2⟩;have h1:=h.1;unfold numIs at h1;rw[Option.isSome_iff_exists] at h1;obtain⟨n,hn⟩:=h1;have:=(numF_iff l n).1 hn;unfold numN;rw[hn];exact this.1
theorem numIs_itoa{l:List UInt8}(h:numIs l=true):l=Lib.itoa (numN l):=by
 unfold numIs at h;rw[Option.isSome_iff_exists] at h;obtain⟨n,hn⟩:=h;have:=(numF_iff l n).1 hn;unfold numN;rw[hn];exact this.1
theorem itoa_num{n:Int}(h : -10000000<n∧n<10000000):numN (Lib.itoa n)=n∧numIs (Lib.itoa n)=true:=by
 have:=(numF_iff (Lib.itoa n) n).2 ⟨rfl,h⟩;rw[numN,numIs,this];exact⟨rfl,rfl⟩
theorem itoa_nat{n:Int}(h:0≤n∧n<10000000):numN (Lib.itoa n)=n∧natB (Lib.itoa n)=true:=by
 have:=itoa_num (n:=n) ⟨by omega,h.2⟩;exact⟨this.1,by rw[natB,this.2,this.1,Bool.true_and,decide_eq_true_eq];exact h.1⟩
theorem read_make{s:List UInt8}(h:(frameF s).1=0):frameE (frameF s).2=0∧frameT (frameF s).2=s:=by
 unfold frameF at h ⊢
 by_cases h1:100<s.length
 ·rw[if_pos h1] at h;cases h
 ·rw[if_neg h1] at h ⊢
  by_cases h7:(cutL 32 s).length=7
  ·obtain⟨w0,w1,w2,w3,w4,w5,w6,hc⟩:=readL_seven h7
   rw[hc,readL] at h ⊢;unfold readW at h ⊢
   by_cases a1:w0=[102,114,97,109,101]
   ·rw[if_pos a1] at h ⊢
    by_cases a2:wordsB w1 w2 w3 w4 w5 w6=true
    ·rw[if_pos a2] at h ⊢
     by_cases a3:((sumF (joinL 32 [w0,w1,w2,w3,w4,w5]):Nat):Int)=numN w6
     ·rw[if_pos a3] at h ⊢
      by_cases a4:frameE (frmOf w1 w2 w3 w4 w5)=0
      ·rw[if_pos a4] at h ⊢
       refine⟨a4,?_⟩;simp only[wordsB,Bool.and_eq_true] at a2;obtain⟨⟨⟨⟨⟨b1,b2⟩,b3⟩,b4⟩,b5⟩,b6⟩:=a2;rw[Option.isSome_iff_exists] at b2;obtain⟨c,hc2⟩:=b2;have e2:=(readF_text hc2).2
       have hw:frameW (frmOf w1 w2 w3 w4 w5)=[w0,w1,w2,w3,w4,w5]:=by
        rw[frameW,frmOf,hc2];simp only[Option.getD_some];rw[e2,←(natB_itoa b1).1,←(natB_itoa b3).1,←(natB_itoa b4).1,←numIs_itoa b5,a1]
       rw[frameT,frameBody,hw,a3,←(natB_itoa b6).1];have:=joinL_cutL 32 s;rw[hc] at this;rw[←this];simp[joinL]
      ·rw[if_neg a4] at h;exact absurd h a4
     ·rw[if_neg a3] at h;cases h
    ·rw[if_neg a2] at h;cases h
   ·rw[if_neg a1] at h;cases h
  ·rw[readL_other h7] at h;cases h
theorem decDigits_len2{n:Nat}(h:n≤16):(Lib.decDigits n).length≤2:=(digits_le n 2 (by omega)).2 (by omega)
theorem join_len2:∀(l:List (List UInt8)),(∀x∈l,x.length≤2)→(Lib.join l [44]).length≤l.length*3
 | [],_=>by simp[Lib.join,List.intercalate]
 | [x],h=>by have:=h x (by simp);simp[Lib.join,List.intercalate];omega
 | x::y::r,h=>by
  have ih:=join_len2 (y::r) (fun z hz=>h z (List.mem_cons_of_mem _ hz));have hx:=h x (by simp);simp only[Lib.join,List.intercalate,List.intersperse,List.flatten_cons,List.length_append,List.length_cons,List.length_nil] at ih ⊢;omega
theorem textF_len48(c:Int):(textF c).length≤48:=by
 unfold textF
 split
 ·split
  ·decide
  ·refine Nat.le_trans (join_len2 ((listTo c 16).map Lib.itoa) (fun x hx=>?_)) (by have:=listTo_length c 16;simp;omega)
   obtain⟨y,hy,rfl⟩:=List.mem_map.1 hx;have:=listTo_mem c 16 (Nat.le_refl _) y hy;unfold Lib.itoa;rw[if_neg (by omega)];exact decDigits_len2 (by omega)
 ·decide
theorem itoa_len(n:Int)(k:Nat)(hk:1≤k)(h:n.natAbs<10^k):(Lib.itoa n).length≤k+1:=by
 unfold Lib.itoa
 split
 ·have:=(digits_le n.natAbs k hk).2 h;simp;omega
 ·have:=(digits_le n.toNat k hk).2 (by omega);omega
theorem frameBody_short{f:Frm}(h:frameE f=0):(frameBody f).length≤88:=by
 obtain⟨h1,h2,h3,h4,h5⟩:=frameE_zero h;simp only[nodeB,viewB,numB,decide_eq_true_eq] at h1 h4 h5;have e2:(10:Nat)^2=100:=by decide
 have e1:(10:Nat)^1=10:=by decide
 have e7:(10:Nat)^7=10000000:=by decide
 have l1:=itoa_len f.frm 2 (by omega) (by omega);have l2:=textF_len48 f.mem;have l3:=itoa_len f.mode 1 (by omega) (by omega);have l4:=itoa_len f.slot 7 (by omega) (by omega);have l5:=itoa_len f.value 7 (by omega) (by omega);simp only[frameBody,frameW,joinL,List.length_append,List.length_cons,List.length_nil];omega
theorem frameT_short{f:Frm}(h:frameE f=0):(frameT f).length≤95:=by
 have h1:=frameBody_short h;have h2:=sumF_lt (frameBody f);have e5:(10:Nat)^5=100000:=by decide
 have h3:=itoa_len ((sumF (frameBody f):Nat):Int) 5 (by omega) (by omega);rw[frameT,List.length_append,List.length_cons];omega
theorem text_no_blank(c:Int):(32:UInt8)∉textF c:=by
 unfold textF
 split
 ·split
  ·decide
  ·rw[join_joinL]
   intro h
   have:∀l:List Int,(32:UInt8)∉joinL 44 (l.map Lib.itoa):=by
    intro l
    induction l with
    | nil=>simp[joinL]
    | cons x r ih=>
     cases r with
     | nil=>simp only[List.map_cons,List.map_nil,joinL];exact itoa_no (by decide) x
     | cons y r=>
      simp only[List.map_cons,joinL] at ih ⊢;simp only[List.mem_append,List.mem_cons,not_or];exact⟨itoa_no (by decide) x,by decide,ih⟩
   exact this _ h
 ·decide
theorem frameW_no_blank(f:Frm):∀x∈frameW f,(32:UInt8)∉x:=by
 intro x hx;simp only[frameW,List.mem_cons,List.not_mem_nil,or_false] at hx
 rcases hx with rfl|rfl|rfl|rfl|rfl|rfl
 ·decide
 ·exact itoa_no (by decide) _
 ·exact text_no_blank _
 ·exact itoa_no (by decide) _
 ·exact itoa_no (by decide) _
 ·exact itoa_no (by decide) _
theorem frameT_join(f:Frm):frameT f=joinL 32 (frameW f++[Lib.itoa ((sumF (frameBody f):Nat):Int)]):=by
 rw[frameT];simp[frameBody,frameW,joinL]
theorem make_read{f:Frm}(h:frameE f=0):frameF (frameT f)=(0,f):=by
 have hl:=frameT_short h;have hsm:=sumF_lt (frameBody f)
 have hcut:cutL 32 (frameT f)=frameW f++[Lib.itoa ((sumF (frameBody f):Nat):Int)]:=by
  rw[frameT_join];refine cutL_joinL 32 _ (by simp) fun w hw=>?_
  rcases List.mem_append.1 hw with hw|hw
  ·exact frameW_no_blank f w hw
  ·rw[List.mem_singleton] at hw;subst hw;exact itoa_no (by decide) _
 obtain⟨h1,h2,h3,h4,h5⟩:=frameE_zero h;simp only[nodeB,viewB,numB,crewB,decide_eq_true_eq] at h1 h2 h4 h5;obtain⟨c,hc,hc6⟩:∃c:Nat,f.mem=c∧c<65536:=⟨f.mem.toNat,by omega,by omega⟩
 have k1:=itoa_nat (n:=f.frm) (by omega);have k3:=itoa_nat (n:=f.mode) (by omega);have k4:=itoa_nat (n:=f.slot) (by omega);have k5:=itoa_num (n:=f.value) (by omega);have k6:=itoa_nat (n:=((sumF (frameBody f):Nat):Int)) (by omega);have k2:readF (textF f.mem)=some c:=by rw[hc];exact read_text c hc6
 have hf:frmOf (Lib.itoa f.frm) (textF f.mem) (Lib.itoa f.mode) (Lib.itoa f.slot) (Lib.itoa f.value)=f:=by
  rw[frmOf,k1.1,k2,k3.1,k4.1,k5.1];simp only[Option.getD_some];rw[←hc]
 rw[frameF,if_neg (by omega),hcut]
 show readW [102,114,97,109,101] (Lib.itoa f.frm) (textF f.mem) (Lib.itoa f.mode) (Lib.itoa f.slot) (Lib.itoa f.value) (Lib.itoa ((sumF (frameBody f):Nat):Int))=_
 rw[readW,if_pos rfl,if_pos (by simp[wordsB,k1.2,k2,k3.2,k4.2,k5.2,k6.2]),if_pos (by rw[k6.1];rfl),hf,if_pos h]
end Go.Proofs.YtppfkokfnoeopaaGreatDoor
