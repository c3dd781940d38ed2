/- A part of a proof. -/
import Derived.Test.YtppfkokfnoeopaaGreatDoorDYDo
import Derived.Test.YtppfkokfnoeopaaGreatDoorDRefLast
import Derived.Test.YtppfkokfnoeopaaGreatDoorDTapeR
import Derived.Test.YtppfkokfnoeopaaGreatDoorDClusActs
namespace Go.Proofs.YtppfkokfnoeopaaGreatDoor
open Go.RowKit Go.Maps
set_option maxRecDepth 100000 in
theorem rWords_any(l:List UInt8)(w:World) :
 Calls Tryz.prog 40 #[.string ⟨l.toArray⟩] w fun e w'=>e=.returned (.int .i64 (wordsN l))∧w=w':=by
 by_cases q1:l=[112,108,97,110]
 ·subst q1
  go_enter Tryz.func40,Tryz.ntmps40;go_wp2;go_ret;exact⟨rfl,rfl⟩
 by_cases q2:l=[111,102,102]
 ·subst q2
  go_enter Tryz.func40,Tryz.ntmps40;go_wp2;go_ret;exact⟨rfl,rfl⟩
 by_cases q3:l=[111,110]
 ·subst q3
  go_enter Tryz.func40,Tryz.ntmps40;go_wp2;go_ret;exact⟨rfl,rfl⟩
 by_cases q4:l=[109,111,100,101]
 ·subst q4
  go_enter Tryz.func40,Tryz.ntmps40;go_wp2;go_ret;exact⟨rfl,rfl⟩
 by_cases q5:l=[115,108,111,116]
 ·subst q5
  go_enter Tryz.func40,Tryz.ntmps40;go_wp2;go_ret;exact⟨rfl,rfl⟩
 by_cases q6:l=[115,101,116]
 ·subst q6
  go_enter Tryz.func40,Tryz.ntmps40;go_wp2;go_ret;exact⟨rfl,rfl⟩
 have HW:Hid (wordsN l=-1):=by unfold Hid wordsN;rw[if_neg (by simp[q1,q2,q3,q4,q5]),if_neg q6]
 have g1:(l==[112,108,97,110])=false:=by simpa using q1
 have g2:(l==[111,102,102])=false:=by simpa using q2
 have g3:(l==[111,110])=false:=by simpa using q3
 have g4:(l==[109,111,100,101])=false:=by simpa using q4
 have g5:(l==[115,108,111,116])=false:=by simpa using q5
 have g6:(l==[115,101,116])=false:=by simpa using q6
 clear q1 q2 q3 q4 q5 q6;go_enter Tryz.func40,Tryz.ntmps40;go_wp2;go_ret;exact⟨by rw[HW.out];rfl,rfl⟩
def RNums(s:List UInt8)(c:UInt8)(w:World)(e:Ending)(w':World):Prop:=
 (∃xs ao co,numsAcc (cutL c s)=some xs∧e=.returned (.tuple #[.slice ao xs.length co,.bool true])∧w'.ownsRow w.heap.size 3 1 (.slice ao xs.length co) xs.length (encInts xs)∧Below w.heap.size w w') ∨
 (numsAcc (cutL c s)=none∧e=.returned (.tuple #[.slice none 0 0,.bool false])∧Below w.heap.size w w')
set_option maxRecDepth 100000 in
set_option maxHeartbeats 3200000 in
theorem rNums_any(s:List UInt8)(c:UInt8)(w:World)(hs:s.length≤100000) :
 Calls Tryz.prog 95 #[.string ⟨s.toArray⟩,.int .u8 (c.toNat:Int)] w (RNums s c w):=by
 obtain⟨i0,hi,hz0,hz1,hz2⟩:=info_parts info_int;have hi':=Lib.hid hi;have hz0':=Lib.hid hz0;have hz1':=Lib.hid hz1;have hz2':=Lib.hid hz2;clear hi hz0 hz1 hz2;have KC:=Lib.hid (refCut_any s c w hs);have KN:=Lib.hid (fun(x:List UInt8) (W:World) (hx:x.length≤100000)=>numberOf_any x W hx);have HLN:Hid (∀x∈cutL c s,x.length≤100000):=fun x hx=>by have:=cutL_piece c s x hx;omega
 have HLL:Hid ((cutL c s).length≤100001):=by have:=cutL_length c s;unfold Hid;omega
 unfold RNums;go_enter Tryz.func95,Tryz.ntmps95;go_wp2_with fail;refine KC.out.mono ?_;rintro e w1⟨ac,nc,cc,rfl,hrc,hnc,_,hb1⟩;have HRC:=Lib.hid hrc;have HNC:=Lib.hid hnc;have HB1:=Lib.hid hb1;obtain⟨ws,hws⟩:∃ws,ws=cutL c s:=⟨_,rfl⟩
 rw[←hws] at HLN HLL HRC HNC;have HWQ:=Lib.hid hws;clear hws;have hn1:nc≤100001:=by rw[←HNC.out];exact HLL.out
 clear KC hrc hnc hb1;go_wp2;go_loopw [7,8] (fun v i wr=>∃(k:Nat) (xs:List Int),k≤nc∧i=.int .i64 k∧Hid (numsAcc (ws.take k)=some xs)∧xs.length=k∧wr.ownsRow w1.heap.size 3 1 v xs.length (encInts xs)∧Below w1.heap.size w1 wr) (fun _ i _=>nc-(intOf i).toNat)
 case atStart=>exact⟨0,[],Nat.zero_le _,rfl,rfl,rfl,World.ownsRow_nil _ _ _ _,Below.refl _ _⟩
 case round=>
  obtain⟨k,xs,hk,rfl,hacc,hxl,hown,hb⟩:=hrel
  by_cases hlt:k<nc
  ·have hkw:k<ws.length:=by rw[HNC.out];exact hlt
   obtain⟨b,off,rfl,hbl,cw⟩:=text_at HRC.out k hkw;have cx:=(hb.cell (p:=⟨b,off+k,none⟩) hbl).trans cw;have hxm:=HLN.out _ (List.getElem_mem hkw);have HTK:=Lib.hid (List.take_succ_eq_append_getElem hkw);have HWS:Hid (ws=ws.take (k+1)++ws.drop (k+1)):=(List.take_append_drop _ _).symm;have hi0:(0:Int)≤(k:Int):=by omega
   have hi1:(k:Int)<(nc:Int):=by omega
   generalize ws[k]=x at *;have K:=Lib.hid (KN.out x wr hxm)
   cases hn:numIs x
   ·have hf:numF x=none:=by unfold numIs at hn;simpa using hn
    have HNO:Hid (numsAcc ws=none):=by
     unfold Hid;rw[HWS.out];refine numsAcc_none _ ?_;rw[HTK.out,numsAcc_snoc,hacc.out];simp[numsStep,hf]
    rw[hn] at K;have HV:=Lib.hid (onto HB1.out hb);clear hn hf cw hown hb;go_wp2_with fail;refine K.out.mono ?_;rintro e w5⟨rfl,rfl⟩;go_wp2;go_ret2;exact Or.inr ⟨by rw[←HWQ.out];exact HNO.out,rfl,HV.out⟩
   ·have hf:numF x=some (numN x):=by
     unfold numIs at hn;unfold numN
     cases h:numF x with
     | none=>rw[h] at hn;cases hn
     | some v=>rfl
    have HAC:Hid (numsAcc (ws.take (k+1))=some (xs++[numN x])):=by
     unfold Hid;rw[HTK.out,numsAcc_snoc,hacc.out];simp[numsStep,hf]
    rw[hn] at K;generalize numN x=y at *;have HO:=Lib.hid (hown.alloc (.cells #[.int .i64 y] 3));have HW:=Lib.hid (RowAt.new_at wr [.int .i64 y] 3 _ rfl);have HV:=Lib.hid (hb.alloc hb.size (.cells #[.int .i64 y] 3));have HXL:=Lib.hid hxl;clear hn hf cw hown hb hacc;go_wp2_with fail;refine K.out.mono ?_;rintro e w5⟨rfl,rfl⟩;go_wp2_with (at_builtin;refine wpList_append2 _ rfl (.tmp 30) (.tmp 32) 72 rfl w1.heap.size 3 i0 _ 1 8 Tryz.underlying72 hi'.out hz0'.out hz1'.out hz2'.out rfl (by decide) _ xs.length (encInts xs) rfl HO.out (some ⟨wr.heap.size,0,none⟩) 1 1 [.int .i64 y] rfl rfl HW.out ?_ ?_ ?_ ?_ ?_;(simp[Value.oneCell']);(unfold maxLen;omega);(omega);(exact HV.out.size);intro v1 w6 ho1 hg1 hq hm1;clear hq hm1);go_roundw
    case rel=>exact⟨k+1,xs++[y],by omega,by go_num,HAC,by rw[List.length_append,HXL.out];rfl,by rw[List.length_append];simpa[encInts] using ho1,HV.out.grown hg1 HV.out.size (fun j e=>(HO.out.lt j e).1)⟩
    case measure=>simp[intOf];omega
  ·obtain rfl:k=nc:=by omega
   obtain⟨ao,co,rfl⟩:=owned_shape hown
   have HAC:Hid (numsAcc ws=some xs):=by
    have h:=hacc.out;rw[List.take_of_length_le (by rw[HNC.out];omega)] at h;exact h
   have HO:=Lib.hid (ownsRow_rebase hown HB1.out.size);have HV:=Lib.hid (onto HB1.out hb);clear hown hb hacc;go_wp2;go_ret2;exact Or.inl ⟨xs,ao,co,by rw[←HWQ.out];exact HAC.out,rfl,HO.out,HV.out⟩
end Go.Proofs.YtppfkokfnoeopaaGreatDoor
namespace Go.Proofs.YtppfkokfnoeopaaGreatDoor
open Go.RowKit
section
open Go.Lib
theorem map_no(a b:UInt8):∀l:List UInt8,a∉l→l.map (fun x=>if x=a then b else x)=l
 | [],_=>rfl
 | x::r,h=>by
  rw[List.mem_cons,not_or] at h;rw[List.map_cons,map_no a b r h.2,if_neg (Ne.symm h.1)]
theorem byte_at{a:UInt8}:∀{s:List UInt8} {i:Nat},indexByte s a=i→∃r,s=s.take i++a::r∧a∉s.take i∧r=s.drop (i+1)
 | [],i,h=>by simp[indexByte] at h
 | x::t,i,h=>by
  unfold indexByte at h
  split at h
  ·rename_i hx
   obtain rfl:i=0:=by omega
   obtain rfl:x=a:=by simpa using hx
   exact⟨t,by simp⟩
  ·rename_i hx
   split at h
   ·omega
   ·rename_i ht
    have hg:=indexByte_ge t a;have hn:indexByte t a≠-1:=by simpa using ht
    obtain⟨j,rfl⟩:∃j,i=j+1:=⟨i-1,by omega⟩
    obtain⟨r,h1,h2,h3⟩:=byte_at (a:=a) (s:=t) (i:=j) (by omega);refine⟨r,?_,?_,by simpa using h3⟩
    ·rw[List.take_succ_cons,List.cons_append,←h1]
    ·rw[List.take_succ_cons,List.mem_cons,not_or]
     exact⟨fun e=>hx (by simp[e]),h2⟩
theorem byte_no{a:UInt8}:∀{s:List UInt8},indexByte s a=-1→a∉s
 | [],_=>by simp
 | x::t,h=>by
  unfold indexByte at h
  split at h
  ·omega
  ·rename_i hx
   split at h
   ·rename_i ht
    rw[List.mem_cons,not_or];exact⟨fun e=>hx (by simp[e]),byte_no (by simpa using ht)⟩
   ·have:=indexByte_ge t a;omega
theorem repK_map(a b:UInt8):∀(fuel:Nat) (s:List UInt8),s.length<fuel→replaceK [a] [b] (countFrom [a] fuel s) s=s.map (fun x=>if x=a then b else x)
 | 0,s,h=>by omega
 | fuel+1,s,h=>by
  unfold countFrom
  split
  ·rename_i hi
   rw[index_one] at hi;rw[map_no a b s (byte_no (by simpa using hi))];rfl
  ·rename_i hi
   have hge:=index_ge s [a];have hne:index s [a]≠-1:=by simpa using hi
   obtain⟨i,hi⟩:∃i:Nat,index s [a]=i:=⟨(index s [a]).toNat,by omega⟩
   have hi2:=hi;rw[index_one] at hi2;obtain⟨r,h1,h2,h3⟩:=byte_at hi2;rw[Nat.add_comm,replaceK_hit _ _ _ _ i hi];have e:(index s [a]).toNat=i:=by omega
   rw[e,show i+[a].length=i+1 from rfl,←h3,repK_map a b fuel r (by have:=congrArg List.length h1;simp at this;omega)]
   conv=>rhs;rw[h1]
   rw[List.map_append,map_no a b _ h2,List.map_cons,if_pos rfl];simp
theorem replace_map(s:List UInt8)(a b:UInt8):replaceAll s [a] [b]=s.map (fun x=>if x=a then b else x):=by
 unfold replaceAll replace
 split
 ·rename_i h
  obtain rfl:a=b:=by simpa using h
  conv=>lhs;rw[←List.map_id s]
  exact List.map_congr_left (fun x _=>by by_cases e:x=a<;>simp[e])
 ·rw[show replaceNum s [a] (-1)=count s [a] from by unfold replaceNum;simp]
  exact repK_map a b _ s (Nat.lt_succ_self _)
end
theorem DRow.byte{w:World}{base g n cap:Nat}{bs:List UInt8}(h:DRow w base (.slice (some ⟨g,0,none⟩) n cap) bs)(k:Nat)(hk:k<bs.length) :
 w.cell? ⟨g,k,none⟩=some (.int .u8 (bs[k].toNat:Nat))∧w.frozen? ⟨g,k,none⟩=false∧∀x:UInt8,DRow (w.setCell ⟨g,k,none⟩ (.int .u8 (x.toNat:Nat))) base (.slice (some ⟨g,0,none⟩) n cap) (bs.set k x):=by
 rcases h with⟨e,_⟩|⟨g',cap',cur,fz,e,h1,h2,h3,h4,h5,h6,h7⟩
 ·cases e
 ·injection e with e1 e2 e3
  injection e1 with e1;injection e1 with e1;subst e1 e2 e3;have hkc:k<cur.size:=by omega
  have hc:cur[k]?=some (.int .u8 (bs[k].toNat:Nat)):=by
   have:=congrArg (fun l=>l[k]?) h6;simp only[List.getElem?_take_of_lt hk,Lib.strCells] at this;rw[Array.getElem?_toList] at this;rw[this];simp[hk]
  refine⟨by simp only[World.cell?,h2];exact hc,?_,fun x=>?_⟩
  ·have:=h7 k hkc
   simp only[World.frozen?,h2];simp only[Bool.and_eq_false_iff,decide_eq_false_iff_not];omega
  ·refine Or.inr ⟨g,cap,cur.setIfInBounds k (.int .u8 (x.toNat:Nat)),fz,by rw[List.length_set],h1,?_,by rw[List.length_set];exact h3,h4,by simpa using h5,?_,by simpa using h7⟩
   ·rw[setCell_eq_setRow w g k cur _ fz _ h2]
    exact setRow_heap w g cur _ _ _ h2
   ·rw[List.length_set,Array.toList_setIfInBounds,List.take_set,h6]
    simp[Lib.strCells,List.map_set]
set_option maxRecDepth 100000 in
theorem rSwap_any(s:List UInt8)(a b:UInt8)(w:World)(hs:s.length≤262144) :
 Calls Tryz.prog 94 #[.string ⟨s.toArray⟩,.int .u8 (a.toNat:Int),.int .u8 (b.toNat:Int)] w fun e w'=>e=.returned (.string ⟨(Lib.replaceAll s [a] [b]).toArray⟩)∧Below w.heap.size w w':=by
 rw[replace_map];obtain⟨cap,hrun,hrow,hb0⟩:=run_conv_text w s hs;generalize Lib.bytesWorld w 5 ⟨s.toArray⟩=w1 at *;obtain⟨n,hn⟩:∃n,n=s.length:=⟨_,rfl⟩
 rw[←hn] at hrun hrow;have HROW:=Lib.hid hrow;have HB0:=Lib.hid hb0;have HN:=Lib.hid hn.symm;have hnn:n≤262144:=by omega
 clear hrow hb0 hn;go_enter Tryz.func94,Tryz.ntmps94;go_wp2;go_loopw [8] (fun i wr=>∃k:Nat,k≤n∧i=.int .i64 k∧DRow wr w.heap.size (.slice (some ⟨w.heap.size,0,none⟩) n cap) ((s.take k).map (fun x=>if x=a then b else x)++s.drop k)∧Below w.heap.size w wr) (fun i _=>n-(intOf i).toNat)
 case atStart=>exact⟨0,Nat.zero_le _,rfl,by simpa using HROW.out,HB0.out⟩
 case round=>
  obtain⟨k,hk,rfl,hr,hb⟩:=hrel
  by_cases hlt:k<n
  ·have hks:k<s.length:=by rw[HN.out];exact hlt
   have hkl:((s.take k).map (fun x=>if x=a then b else x)).length=k:=by simp;omega
   obtain⟨x,hx⟩:∃x,x=s[k]:=⟨_,rfl⟩
   have hdr:s.drop k=x::s.drop (k+1):=by rw[hx];exact List.drop_eq_getElem_cons hks
   have htk:(s.take (k+1)).map (fun x=>if x=a then b else x)=(s.take k).map (fun x=>if x=a then b else x)++[if x=a then b else x]:=by rw[List.take_succ_eq_append_getElem hks,List.map_append,hx];rfl
   have hkb:k<((s.take k).map (fun x=>if x=a then b else x)++s.drop k).length:=by rw[hdr];simp;omega
   obtain⟨c1,c2,c3⟩:=hr.byte k hkb;have hgl:w.heap.size<wr.heap.size:=hr.lt _ rfl
   have hget:((s.take k).map (fun x=>if x=a then b else x)++s.drop k)[k]'hkb=x:=by
    refine(List.getElem?_eq_some_iff.1 (?_:_=some x)).2;rw[List.getElem?_append_right (by omega),hkl,Nat.sub_self,hdr];rfl
   rw[hget] at c1;have hi0:(0:Int)≤(k:Int):=by omega
   have hi1:(k:Int)<(n:Int):=by omega
   have hkc:k<cap:=by
    rcases hr with⟨e,_⟩|⟨g',cap',cur,fz,e,h1,h2,h3,h4,h5,h6,h7⟩
    ·cases e
    ·injection e with e1 e2 e3;omega
   clear hx
   by_cases hxa:x=a
   ·subst hxa
    have h4:=c3 b
    have hset:((s.take k).map (fun y=>if y=x then b else y)++s.drop k).set k b=(s.take (k+1)).map (fun y=>if y=x then b else y)++s.drop (k+1):=by
     rw[List.set_append_right _ _ (by omega),hkl,Nat.sub_self,hdr,List.set_cons_zero,htk,if_pos rfl];simp
    rw[hset] at h4;have hb4:=hb.setCell (p:=⟨w.heap.size,k,none⟩) (Nat.le_refl _) (.int .u8 (b.toNat:Nat));have H4:=Lib.hid h4;have HB4:=Lib.hid hb4;clear h4 hb4 hset c3 htk hdr hget hr hb hkb hkl;go_wp2;go_roundw
    case rel=>exact⟨k+1,by omega,by go_num,H4.out,HB4.out⟩
    case measure=>simp[intOf];omega
   ·have hne:((x.toNat:Int)==(a.toNat:Int))=false:=by
     refine beq_eq_false_iff_ne.2 fun e=>hxa (UInt8.toNat_inj.1 (by omega))
    have hne2:(x==a)=false:=beq_eq_false_iff_ne.2 hxa;have hne3:decide (x=a)=false:=decide_eq_false hxa
    have h4:DRow wr w.heap.size (.slice (some ⟨w.heap.size,0,none⟩) n cap) ((s.take (k+1)).map (fun y=>if y=a then b else y)++s.drop (k+1)):=by
     rw[htk,if_neg hxa,List.append_assoc];rw[hdr] at hr;exact hr
    have H4:=Lib.hid h4;have HB4:=Lib.hid hb;clear h4 hxa c3 htk hdr hget hr hb hkb hkl;go_wp2;go_roundw
    case rel=>exact⟨k+1,by omega,by go_num,H4.out,HB4.out⟩
    case measure=>simp[intOf];omega
  ·obtain rfl:k=n:=by omega
   rw[List.take_of_length_le (by rw[HN.out];omega),List.drop_of_length_le (by rw[HN.out];omega),List.append_nil] at hr;have hrun2:=run_text_back wr _ _ _ hr;have HB4:=Lib.hid hb;clear hr hb;go_wp2;go_ret;exact⟨rfl,HB4.out⟩
end Go.Proofs.YtppfkokfnoeopaaGreatDoor
namespace Go.Proofs.YtppfkokfnoeopaaGreatDoor
open Go.RowKit Go.Maps
theorem flat7:∀(rs:List RN) (P:Nat→Value→Prop),(∀(i j:Nat) (v:Value) (h:i<rs.length),rs[i].cells[j]?=some v→P (i*7+j) v)→∀(k:Nat) (u:Value),(encRN rs)[k]?=some u→P k u
 | [],P,_,k,u,h=>by simp[encRN] at h
 | r::t,P,hP,k,u,h=>by
  have e:encRN (r::t)=r.cells++encRN t:=by simp[encRN]
  rw[e] at h
  by_cases hk:k<7
  ·rw[List.getElem?_append_left (by rw[RN.len];exact hk)] at h
   have:=hP 0 k u (by simp) h
   rwa [Nat.zero_mul,Nat.zero_add] at this
  ·rw[List.getElem?_append_right (by rw[RN.len];omega),RN.len] at h
   have:=flat7 t (fun q v=>P (7+q) v) (fun i j v hi hv=>by
    have h1:=hP (i+1) j v (by simpa using hi) (by simpa using hv)
    rwa [show(i+1)*7+j=7+(i*7+j) by omega] at h1) (k-7) u h
   rwa [show 7+(k-7)=k by omega] at this
theorem RefAt.news{w:World}{R:RL}{rs:List RN}{c:CP}(h:RefAt w R rs c):∀(k:Nat) (u:Value),(encRN rs)[k]?=some u→w.cell? ((⟨R.nb,R.off,none⟩:Addr).add k)=some u:=fun k u hu=>
 flat7 rs (fun k u=>w.cell? ((⟨R.nb,R.off,none⟩:Addr).add k)=some u) (fun i j v hi hv=>by
  have hadd:(⟨R.nb,R.off,none⟩:Addr).add (i*7+j)=⟨R.nb,R.off+(i*7+j),none⟩:=by unfold Addr.add;split<;>simp_all
  rw[hadd,←Nat.add_assoc]
  exact h.row i j v hi hv) k u hu
theorem encRN_one(l:List RN):∀u∈encRN l,u.oneCell'=true:=fun u hu=>by
 obtain⟨r,_,hr⟩:=List.mem_flatMap.1 hu;exact RN.one r u hr
theorem encRN_len(l:List RN):(encRN l).length=l.length*7:=by
 induction l with
 | nil=>rfl
 | cons r t ih=>rw[show encRN (r::t)=r.cells++encRN t by simp[encRN],List.length_append,ih,RN.len,List.length_cons];omega
theorem rCopy_at{w:World}{R:RL}{rs:List RN}{c:CP}{B0 g cap:Nat}(h:RefAt w R rs c)(hB:B0≤w.heap.size)(ho:w.ownsRow B0 99 7 (.slice (some ⟨g,0,none⟩) rs.length cap) rs.length (encRN rs))(hfar:∀b off,R.pa=some ⟨b,off,none⟩→b<B0) :
 RefAt (w.alloc (.cells #[.slice R.pa c.plan.length R.pc,.int .i64 c.time,.int .i64 c.now,.int .i64 c.asked,.slice (some ⟨g,0,none⟩) rs.length cap] 94)) ⟨w.heap.size,g,0,cap,R.pa,R.pc⟩ rs c∧B0≤g:=by
 have hal:Below w.heap.size w (w.alloc (.cells #[.slice R.pa c.plan.length R.pc,.int .i64 c.time,.int .i64 c.now,.int .i64 c.asked,.slice (some ⟨g,0,none⟩) rs.length cap] 94)):=(Below.refl _ _).alloc (Nat.le_refl _) _;have h2:=h.below hal;have hrow:=((RowAt.owned ho).1).below hal
 rcases ho.2 with⟨e,_⟩|⟨g',cap2,cur,e,hg,hh,_⟩
 ·cases e
 ·injection e with e1 _ _
  injection e1 with e1;injection e1 with e1;subst e1;refine⟨⟨Blok.new w _ _,⟨cur,(hal.block _ (Array.getElem?_eq_some_iff.1 hh).1).trans hh⟩,fun i j v hi hv=>?_,h2.plan,fun b off e=>?_,h2.each,h2.dom,h2.rise,h2.len⟩,hg⟩
  ·have hj:j<7:=by have:=(List.getElem?_eq_some_iff.1 hv).1;simpa[RN.cells] using this
   have:=hrow.cell (i:=i*7+j) (v:=v) (by rw[encRN,flat_get RN.cells 7 RN.len rs i hi j hj];exact hv);dsimp only;rw[Nat.add_assoc];exact this
  ·have:=hfar b off e
   dsimp only;omega
set_option maxRecDepth 200000 in
set_option maxHeartbeats 6400000 in
theorem rCopy_any(R:RL)(rs:List RN)(c:CP)(w:World)(h:RefAt w R rs c)(h0:0<rs.length)(hfar:∀b off,R.pa=some ⟨b,off,none⟩→b<w.heap.size) :
 Calls Tryz.prog 43 #[.pointer (some ⟨R.cb,0,none⟩)] w fun e w'=>∃R':RL,e=.returned (.pointer (some ⟨R'.cb,0,none⟩))∧RefAt w' R' rs c∧R'.pa=R.pa∧w.heap.size≤R'.cb∧w.heap.size≤R'.nb∧Below w.heap.size w w':=by
 obtain⟨i0,hi,hz0,hz1,hz2⟩:=info_parts info_rnode;have hi':=Lib.hid hi;have hz0':=Lib.hid hz0;have hz1':=Lib.hid hz1;have hz2':=Lib.hid hz2;clear hi hz0 hz1 hz2;obtain⟨c0,c1,c2,c3,c4⟩:=h.cells;have hl16:=h.len;have hlt:=h.lt;have H:=Lib.hid h;have HNW:=Lib.hid ((h.drewN 1).news);have HFAR:=Lib.hid hfar;clear h hfar;go_enter Tryz.func43,Tryz.ntmps43;go_wp2;refine wp_region_held_drew (S:=fun w'=>w'.cell? ⟨R.cb,0,none⟩=some (.slice R.pa c.plan.length R.pc)∧w'.cell? ⟨R.cb,1,none⟩=some (.int .i64 c.time)∧w'.cell? ⟨R.cb,2,none⟩=some (.int .i64 c.now)∧w'.cell? ⟨R.cb,3,none⟩=some (.int .i64 c.asked)∧w'.cell? ⟨R.cb,4,none⟩=some (.slice (some ⟨R.nb,R.off,none⟩) rs.length R.nc)) (by kernel_rfl) ⟨(World.cell?_drewN _ 1 _).trans c0,(World.cell?_drewN _ 1 _).trans c1,(World.cell?_drewN _ 1 _).trans c2,(World.cell?_drewN _ 1 _).trans c3,(World.cell?_drewN _ 1 _).trans c4⟩ (fun hHeld=>?_);refine wpAnyH_take (i:=0) (v:=?_) rfl (by kernel_rfl) (by kernel_rfl) (by kernel_rfl) (fun _ _ _ h=>h) (Or.inl ⟨by rfl,?_⟩) (by assumption) ?_;rotate_left
 ·(intro w hSw;obtain⟨d0,d1,d2,d3,d4⟩:=hSw;go_simp;try with_reducible rfl)
 refine wpAnyH_take (i:=1) (v:=?_) rfl (by kernel_rfl) (by kernel_rfl) (by kernel_rfl) (fun _ _ _ h=>h) (Or.inl ⟨by rfl,?_⟩) (by assumption) ?_;rotate_left
 ·(intro w hSw;obtain⟨d0,d1,d2,d3,d4⟩:=hSw;go_simp;try with_reducible rfl)
 refine wpAnyH_take (i:=2) (v:=?_) rfl (by kernel_rfl) (by kernel_rfl) (by kernel_rfl) (fun _ _ _ h=>h) (Or.inl ⟨by rfl,?_⟩) (by assumption) ?_;rotate_left
 ·(intro w hSw;obtain⟨d0,d1,d2,d3,d4⟩:=hSw;go_simp;try with_reducible rfl)
 refine wpAnyH_take (i:=3) (v:=?_) rfl (by kernel_rfl) (by kernel_rfl) (by kernel_rfl) (fun _ _ _ h=>h) (Or.inl ⟨by rfl,?_⟩) (by assumption) ?_;rotate_left
 ·(intro w hSw;obtain⟨d0,d1,d2,d3,d4⟩:=hSw;go_simp;try with_reducible rfl)
 refine wpAnyH_take (i:=4) (v:=?_) rfl (by kernel_rfl) (by kernel_rfl) (by kernel_rfl) (fun _ _ _ h=>h) (Or.inl ⟨by rfl,?_⟩) (by assumption) ?_;rotate_left
 ·(intro w hSw;obtain⟨d0,d1,d2,d3,d4⟩:=hSw;go_simp;try with_reducible rfl)
 refine wpAnyH_take (i:=5) (v:=?_) rfl (by kernel_rfl) (by kernel_rfl) (by kernel_rfl) (fun _ _ _ h=>h) (Or.inl ⟨by rfl,?_⟩) (by assumption) ?_;rotate_left
 ·(intro w hSw;obtain⟨d0,d1,d2,d3,d4⟩:=hSw;go_simp;try with_reducible rfl)
 refine wpAnyH_take (i:=6) (v:=?_) rfl (by kernel_rfl) (by kernel_rfl) (by kernel_rfl) (fun _ _ _ h=>h) (Or.inl ⟨by rfl,?_⟩) (by assumption) ?_;rotate_left
 ·(intro w hSw;obtain⟨d0,d1,d2,d3,d4⟩:=hSw;go_simp;try with_reducible rfl)
 refine wpAnyH_take (i:=7) (v:=?_) rfl (by kernel_rfl) (by kernel_rfl) (by kernel_rfl) (fun _ _ _ h=>h) (Or.inl ⟨by rfl,?_⟩) (by assumption) ?_;rotate_left
 ·(intro w hSw;obtain⟨d0,d1,d2,d3,d4⟩:=hSw;go_simp;try with_reducible rfl)
 refine wpAnyH_take (i:=8) (v:=?_) rfl (by kernel_rfl) (by kernel_rfl) (by kernel_rfl) (fun _ _ _ h=>h) (Or.inl ⟨by rfl,?_⟩) (by assumption) ?_;rotate_left
 ·(intro w hSw;obtain⟨d0,d1,d2,d3,d4⟩:=hSw;go_simp;try with_reducible rfl)
 refine wpAnyH_take (i:=9) (v:=?_) rfl (by kernel_rfl) (by kernel_rfl) (by kernel_rfl) (fun _ _ _ h=>h) (Or.inl ⟨by rfl,?_⟩) (by assumption) ?_;rotate_left
 ·(intro w hSw;obtain⟨d0,d1,d2,d3,d4⟩:=hSw;go_simp;try with_reducible rfl)
 refine wpAnyH_take (i:=10) (v:=?_) rfl (by kernel_rfl) (by kernel_rfl) (by kernel_rfl) (fun _ _ _ h=>h) (Or.inl ⟨by rfl,?_⟩) (by assumption) ?_;rotate_left
 ·(intro w hSw;obtain⟨d0,d1,d2,d3,d4⟩:=hSw;go_simp;try with_reducible rfl)
 refine wpAnyH_take (i:=11) (v:=?_) rfl (by kernel_rfl) (by kernel_rfl) (by kernel_rfl) (fun _ _ _ h=>h) (Or.inl ⟨by rfl,?_⟩) (by assumption) ?_;rotate_left
 ·(intro w hSw;obtain⟨d0,d1,d2,d3,d4⟩:=hSw;go_simp;try with_reducible rfl)
 refine wpAnyH_take (i:=12) (v:=?_) rfl (by kernel_rfl) (by kernel_rfl) (by kernel_rfl) (fun _ _ _ h=>h) (Or.inl ⟨by rfl,?_⟩) (by assumption) ?_;rotate_left
 ·(intro w hSw;obtain⟨d0,d1,d2,d3,d4⟩:=hSw;go_simp;try with_reducible rfl)
 refine wpAnyH_take (i:=13) (v:=?_) rfl (by kernel_rfl) (by kernel_rfl) (by kernel_rfl) (fun _ _ _ h=>h) (Or.inl ⟨by rfl,?_⟩) (by assumption) ?_;rotate_left
 ·(intro w hSw;obtain⟨d0,d1,d2,d3,d4⟩:=hSw;go_simp;try with_reducible rfl)
 refine wpAnyH_take (i:=14) (v:=?_) rfl (by kernel_rfl) (by kernel_rfl) (by kernel_rfl) (fun _ _ _ h=>h) (Or.inl ⟨by rfl,?_⟩) (by assumption) ?_;rotate_left
 ·(intro w hSw;obtain⟨d0,d1,d2,d3,d4⟩:=hSw;go_simp;try with_reducible rfl)
 refine wpAnyH_take (i:=15) (v:=?_) rfl (by kernel_rfl) (by kernel_rfl) (by kernel_rfl) (fun _ _ _ h=>h) (Or.inl ⟨by rfl,?_⟩) (by assumption) ?_;rotate_left
 ·(intro w hSw;obtain⟨d0,d1,d2,d3,d4⟩:=hSw;go_simp;try with_reducible rfl)
 refine wpAnyH_take (i:=16) (v:=?_) rfl (by kernel_rfl) (by kernel_rfl) (by kernel_rfl) (fun _ _ _ h=>h) (Or.inl ⟨by rfl,?_⟩) (by assumption) ?_;rotate_left
 ·(intro w hSw;obtain⟨d0,d1,d2,d3,d4⟩:=hSw;go_simp;try with_reducible rfl)
 refine wpAnyH_take (i:=17) (v:=?_) rfl (by kernel_rfl) (by kernel_rfl) (by kernel_rfl) (fun _ _ _ h=>h) (Or.inl ⟨by rfl,?_⟩) (by assumption) ?_;rotate_left
 ·(intro w hSw;obtain⟨d0,d1,d2,d3,d4⟩:=hSw;go_simp;try with_reducible rfl)
 refine wpAnyH_take (i:=18) (v:=?_) rfl (by kernel_rfl) (by kernel_rfl) (by kernel_rfl) (fun _ _ _ h=>h) (Or.inl ⟨by rfl,?_⟩) (by assumption) ?_;rotate_left
 ·(intro w hSw;obtain⟨d0,d1,d2,d3,d4⟩:=hSw;go_simp;try with_reducible rfl)
 refine wpAnyH_take (i:=19) (v:=?_) rfl (by kernel_rfl) (by kernel_rfl) (by kernel_rfl) (fun _ _ _ h=>h) (Or.inl ⟨by rfl,?_⟩) (by assumption) ?_;rotate_left
 ·(intro w hSw;obtain⟨d0,d1,d2,d3,d4⟩:=hSw;go_simp;try with_reducible rfl)
 refine wpAnyH_take (i:=20) (v:=?_) rfl (by kernel_rfl) (by kernel_rfl) (by kernel_rfl) (fun _ _ _ h=>h) (Or.inl ⟨by rfl,?_⟩) (by assumption) ?_;rotate_left
 ·(intro w hSw;obtain⟨d0,d1,d2,d3,d4⟩:=hSw;go_simp;try with_reducible rfl)
 try simp(maxSteps:=10000000) only[List.getElem_toArray,List.getElem_cons_succ,List.getElem_cons_zero,Act.put,List.setIfInBounds_toArray,List.set_cons_succ,List.set_cons_zero]
 refine wpAnyH_ready (rs:=[21]) (by kernel_rfl) (by simp) ?_;refine AllReadyH.cons rfl (fun K hK=>?_) AllReadyH.nil;refine step_append_lies _ (by rfl) _ _ 92 (by rfl) w.heap.size 99 i0 _ 7 72 Tryz.underlying92 hi'.out hz0'.out hz1'.out hz2'.out rfl (by omega) (.slice none 0 0) 0 [] (by rfl) (World.ownsRow_nil _ _ _ _) ⟨R.nb,R.off,none⟩ rs.length R.nc (encRN rs) (by rfl) (encRN_len rs) HNW.out (encRN_one rs) h0 (by unfold maxLen;omega) (by omega) (by simp) w.heap.size (by simp) ?_;intro gg cap2 w7 ho7 hg7 hat7 hlt7;rw[List.nil_append,Nat.zero_add] at ho7;have h7:Below w.heap.size w w7:=Below.grown (below_drewN (Below.refl _ _) 1) hg7 (by simp) (fun j e=>by simp[Value.ownBlock] at e);have R7:=RefAt.below H.out h7;have q7:=RefAt.cells R7;obtain⟨q0,q1,q2,q3,q4⟩:=q7;have h8:=rCopy_at R7 h7.size ho7 HFAR.out;have hs7:=h7.size;have hv8:=h7.alloc h7.size (.cells #[.slice R.pa c.plan.length R.pc,.int .i64 c.time,.int .i64 c.now,.int .i64 c.asked,.slice (some ⟨gg,0,none⟩) rs.length cap2] 94);have H8:=Lib.hid h8;have HV8:=Lib.hid hv8;clear h8 hv8 R7 ho7 hg7 hat7;refine hK.out _ _ ⟨q0,q1,q2,q3,q4⟩ (fun hHeld=>?_);clear hK K
 try simp(maxSteps:=10000000) only[List.getElem_toArray,List.getElem_cons_succ,List.getElem_cons_zero,Act.put,List.setIfInBounds_toArray,List.set_cons_succ,List.set_cons_zero]
 refine wpAnyH_take (i:=22) (v:=?_) rfl (by kernel_rfl) (by kernel_rfl) (by kernel_rfl) (fun _ _ _ h=>h) (Or.inl ⟨by rfl,?_⟩) (by assumption) ?_;rotate_left
 ·(intro w hSw;go_simp;try with_reducible rfl)
 try simp(maxSteps:=10000000) only[List.getElem_toArray,List.getElem_cons_succ,List.getElem_cons_zero,Act.put,List.setIfInBounds_toArray,List.set_cons_succ,List.set_cons_zero]
 refine wpAnyH_ready (rs:=[23]) (by kernel_rfl) (by simp) ?_;refine AllReadyH.cons rfl (fun K hK=>?_) AllReadyH.nil;go_simp;refine hK.out _ _ ?_ (fun hHeld=>?_)
 ·exact RefAt.cells (RefAt.below (RefAt.below H.out h7) ((Below.refl _ _).alloc (Nat.le_refl _) _))
 clear hK K
 try simp(maxSteps:=10000000) only[List.getElem_toArray,List.getElem_cons_succ,List.getElem_cons_zero,Act.put,List.setIfInBounds_toArray,List.set_cons_succ,List.set_cons_zero]
 refine wpAnyH_take (i:=24) (v:=?_) rfl (by kernel_rfl) (by kernel_rfl) (by kernel_rfl) (fun _ _ _ h=>h) (Or.inl ⟨by rfl,?_⟩) (by assumption) ?_;rotate_left
 ·(intro w hSw;go_simp;try with_reducible rfl)
 try simp(maxSteps:=10000000) only[List.getElem_toArray,List.getElem_cons_succ,List.getElem_cons_zero,Act.put,List.setIfInBounds_toArray,List.set_cons_succ,List.set_cons_zero]
 refine wpAnyH_done (by kernel_rfl) ?_ _;go_wp2;go_ret;exact⟨_,rfl,H8.out.1,rfl,hs7,H8.out.2,HV8.out⟩
theorem num_comma{s:List UInt8}{n:Int}(h:numF s=some n):(44:UInt8)∉s:=by
 rw[((numF_iff s n).1 h).1];exact itoa_no (by decide) n
theorem nums_one(s:List UInt8):(numF s=none∧∀n,numsAcc (cutL 44 s)≠some [n])∨∃n,numF s=some n∧numsAcc (cutL 44 s)=some [n]:=by
 by_cases hc:(44:UInt8)∈s
 ·refine Or.inl ⟨?_,fun n h=>?_⟩
  ·cases h:numF s with
   | none=>rfl
   | some n=>exact absurd hc (num_comma h)
  ·have h1:=numsAcc_len h
   obtain⟨x,hx⟩:∃x,cutL 44 s=[x]:=List.length_eq_one_iff.1 h1.symm
   have h2:=joinL_cutL 44 s;rw[hx] at h2;have h3:=cutL_free 44 s x (by rw[hx];simp);have h4:x=s:=by simpa[joinL] using h2
   exact h3 (h4▸hc)
 ·rw[cutL_word 44 s hc]
  cases h:numF s with
  | none=>exact Or.inl ⟨rfl,fun n hn=>by simp[numsAcc,numsStep,h] at hn⟩
  | some n=>exact Or.inr ⟨n,rfl,by simp[numsAcc,numsStep,h]⟩
structure RefC(w:World)(base:Nat)(R:RL)(c:CP):Prop where
 ref:∃rs,RefAt w R rs c
 inv:InvP c
 low:base≤R.cb∧base≤R.nb
 pat:∀b off,R.pa=some ⟨b,off,none⟩→∃cur,Blok w b 3 cur
theorem RefC.below{w w':World}{base:Nat}{R:RL}{c:CP}(h:RefC w base R c)(hb:Below w.heap.size w w'):RefC w' base R c:=by
 obtain⟨rs,hr⟩:=h.ref
 exact⟨⟨rs,hr.below hb⟩,h.inv,h.low,fun b off e=>by
  obtain⟨cur,hk⟩:=h.pat b off e
  exact⟨cur,hk.kept hb⟩⟩
theorem RefC.size{w:World}{base:Nat}{R:RL}{c:CP}(h:RefC w base R c):base≤w.heap.size:=by
 obtain⟨rs,hr⟩:=h.ref;have:=hr.lt.1;have:=h.low.1;omega
theorem RefC.weak{w:World}{base base':Nat}{R:RL}{c:CP}(h:RefC w base R c)(hb:base'≤base):RefC w base' R c:=⟨h.ref,h.inv,⟨Nat.le_trans hb h.low.1,Nat.le_trans hb h.low.2⟩,h.pat⟩
theorem RefC.step{w w':World}{base:Nat}{R:RL}{c c':CP}(h:RefC w base R c)(hF:Fr R.own w w')(hI:InvP c')(hr:∃rs,RefAt w' R rs c'):RefC w' base R c':=by
 obtain⟨rs,hr0⟩:=h.ref
 exact⟨hr,hI,h.low,fun b off e=>by
  obtain⟨cur,hk⟩:=h.pat b off e;obtain⟨n1,n2⟩:=hr0.pfar b off e
  exact⟨cur,(hF.block b hk.lt (fun ho=>ho.elim n1 n2)).trans hk⟩⟩
theorem RefC.states{w:World}{base:Nat}{R:RL}{c:CP}(h:RefC w base R c):∀i x,c.f i=some x→x.st=0∨x.st=1∨x.st=2:=fun i x hf=>(h.inv.node i x hf).st
def RChange(base:Nat)(R:RL)(c:CP)(ws:List (List UInt8))(w:World)(e:Ending)(w':World):Prop:=
 ∃(p:Option Addr) (t:List UInt8),e=.returned (.tuple #[.pointer p,.string ⟨t.toArray⟩,.int .i64 ((c.change ws).2.2:Nat)])∧Fr R.own w w' ∧
  ((c.change ws).2.2=0→t=(c.change ws).2.1∧∃R':RL,p=some ⟨R'.cb,0,none⟩∧RefC w' base R' (c.change ws).1∧∀j,R'.own j→R.own j∨w.heap.size≤j)
theorem rSlotG_any(R:RL)(rs:List RN)(c:CP)(la:Option Addr)(ln lc:Nat)(lost:List Int)(w:World)(h:RefAt w R rs c)(hI:InvP c)(hll:lost.length=ln)(hlr:RowAt w la (encInts lost))(hlc:ln≤1000)(hlf:lost≠[]→∀b off,la=some ⟨b,off,none⟩→b≠R.cb∧b≠R.nb) :
 Calls Tryz.prog 93 #[.pointer (some ⟨R.cb,0,none⟩),.slice la ln lc] w fun e w'=>e=.returned (.tuple #[.string ⟨c.slotT.toArray⟩,.int .i64 ((c.slotF lost).2:Nat)])∧(∃rs',RefAt w' R rs' (c.slotF lost).1)∧Fr R.own w w':=
 rSlot_any R rs c la ln lc lost w h hI hll hlr hlc hlf
set_option maxRecDepth 100000 in
set_option maxHeartbeats 1600000 in
theorem rSlotC_any(base:Nat)(R:RL)(c:CP)(wa:Option Addr)(wc:Nat)(w1:List UInt8)(w:World)(h:RefC w base R c)(hr:RowAt w wa (encTexts [[115,108,111,116],w1]))(h1:w1.length≤100000) :
 Calls Tryz.prog 42 #[.pointer (some ⟨R.cb,0,none⟩),.slice wa 2 wc] w (RChange base R c [[115,108,111,116],w1] w):=by
 obtain⟨b,off,rfl,hbl,hc⟩:=hr.at (by simp[encTexts]);have c0:w.cell? ⟨b,off,none⟩=some (.string ⟨([115,108,111,116]:List UInt8).toArray⟩):=hc 0 _ rfl;have c1:w.cell? ⟨b,off+1,none⟩=some (.string ⟨w1.toArray⟩):=hc 1 _ rfl;have KR:=Lib.hid (readCrew_any w1 w h1);have KW:=Lib.hid (fun(s:List UInt8) (W:World) (hs:s.length≤262144)=>rSwap_any s 32 95 W hs);have H:=Lib.hid h;clear hr hc h
 cases hf:readF w1 with
 | none=>
  have HS:Hid (c.change [[115,108,111,116],w1]=(c,[],1)):=by unfold Hid;rw[change_slot,CP.slotW,hf]
  rw[hf] at KR;have KR2:Hid (Calls Tryz.prog 92 #[.string ⟨w1.toArray⟩] w fun e w'=>e=.returned (.tuple #[.int .i64 0,.int .i64 1])∧Below w.heap.size w w'):=KR;clear KR KW;go_enter Tryz.func42,Tryz.ntmps42;go_wp2_with fail;refine KR2.out.mono ?_;rintro e w2⟨rfl,hb2⟩;go_wp2;go_ret3;unfold RChange;rw[HS.out];exact⟨_,[],rfl,Fr.of hb2,fun h=>absurd h Nat.one_ne_zero⟩
 | some k=>
  obtain⟨lost,hlost⟩:∃lost,lost=listTo ((k:Nat):Int) 16:=⟨_,rfl⟩
  have HS:Hid (c.change [[115,108,111,116],w1]=((c.slotF lost).1,Lib.replaceAll (if c.slotT=[] then nothB else c.slotT) [32] [95],(c.slotF lost).2)):=by unfold Hid;rw[change_slot,CP.slotW,hf,hlost]
  have hll:lost.length≤16:=by rw[hlost];exact listTo_length _ _
  rw[hf] at KR;have KR2:Hid (Calls Tryz.prog 92 #[.string ⟨w1.toArray⟩] w fun e w'=>e=.returned (.tuple #[.int .i64 ((k:Nat):Int),.int .i64 0])∧Below w.heap.size w w'):=KR;have KL:=Lib.hid (fun W:World=>listOf_own ((k:Nat):Int) W);rw[←hlost] at KL;have hsl:c.slotT.length≤95:=slotT_len H.out.inv;clear KR hlost;generalize ((k:Nat):Int)=kc at *;go_enter Tryz.func42,Tryz.ntmps42;go_wp2_with fail;refine KR2.out.mono ?_;rintro e w2⟨rfl,hb2⟩;have h2:=H.out.below hb2;have KL2:=Lib.hid (KL.out w2);go_wp2_with fail;refine KL2.out.mono ?_;rintro e w3⟨ao,n,co,rfl,ho3,hn3,_,hb3⟩;have h3:=h2.below hb3;have hsz:=ho3.lt;obtain⟨rs,hr3⟩:=h3.ref;have hlt2:R.cb<w2.heap.size∧R.nb<w2.heap.size:=by obtain⟨rs2,hr2⟩:=h2.ref;exact hr2.lt
  have KS:=Lib.hid (rSlotG_any R rs c ao n co lost w3 hr3 h3.inv hn3 (RowAt.owned ho3).1 (by omega) (fun _ b off e=>by
   have:=(hsz b (by rw[e];rfl)).1
   omega))
  have HF3:=Lib.hid (show Fr R.own w w3 from(Fr.of hb2).off hb3);have H3:=Lib.hid h3;clear h2 h3 hsz hr3 hb2 hb3 ho3 hn3 KL KL2 KR2 hlt2;go_wp2_with fail;refine KS.out.mono ?_;rintro e w4⟨rfl,hR4,hF4⟩;have H4:=Lib.hid (H3.out.step hF4 (H3.out.inv.slotF lost) hR4);have HF4:=Lib.hid (HF3.out.trans hF4);clear hR4 hF4 KS
  by_cases hs:c.slotT=[]
  ·have KW4:=Lib.hid (KW.out nothB w4 (by decide))
   rw[hs] at HS;rw[if_pos rfl] at HS;rw[hs];clear KW hs hsl;go_wp2_with fail;refine KW4.out.mono ?_;rintro e w5⟨rfl,hb5⟩;go_wp2;go_ret3;unfold RChange;rw[HS.out];exact⟨_,_,rfl,HF4.out.off hb5,fun _=>⟨rfl,R,rfl,H4.out.below hb5,fun j h=>Or.inl h⟩⟩
  ·have KW4:=Lib.hid (KW.out c.slotT w4 (by omega))
   rw[if_neg hs] at HS;generalize c.slotT=t at *;have hsb:(t==[])=false:=by simpa using hs
   clear KW hs hsl;go_wp2_with fail;refine KW4.out.mono ?_;rintro e w5⟨rfl,hb5⟩;go_wp2;go_ret3;unfold RChange;rw[HS.out];exact⟨_,_,rfl,HF4.out.off hb5,fun _=>⟨rfl,R,rfl,H4.out.below hb5,fun j h=>Or.inl h⟩⟩
set_option maxRecDepth 100000 in
set_option maxHeartbeats 1600000 in
theorem rPlanC_any(base:Nat)(R:RL)(c:CP)(wa:Option Addr)(wc:Nat)(w1:List UInt8)(w:World)(h:RefC w base R c)(hr:RowAt w wa (encTexts [[112,108,97,110],w1]))(h1:w1.length≤100000) :
 Calls Tryz.prog 42 #[.pointer (some ⟨R.cb,0,none⟩),.slice wa 2 wc] w (RChange base R c [[112,108,97,110],w1] w):=by
 obtain⟨b,off,rfl,hbl,hc⟩:=hr.at (by simp[encTexts]);have c0:w.cell? ⟨b,off,none⟩=some (.string ⟨([112,108,97,110]:List UInt8).toArray⟩):=hc 0 _ rfl;have c1:w.cell? ⟨b,off+1,none⟩=some (.string ⟨w1.toArray⟩):=hc 1 _ rfl;have KN:=Lib.hid (rNums_any w1 44 w h1);rw[show((44:UInt8).toNat:Int)=44 from rfl] at KN;have HB:=Lib.hid h.size;have HS0:Hid (c.change [[112,108,97,110],w1]=((c.planW w1).1,okB,(c.planW w1).2)):=change_plan c w1;clear hr hc h;go_enter Tryz.func42,Tryz.ntmps42;go_wp2_with fail;refine KN.out.mono ?_;rintro e w2 (⟨xs,ao,co,hx,rfl,ho2,hb2⟩|⟨hx,rfl,hb2⟩)
 ·have HS:Hid (c.change [[112,108,97,110],w1]=(CP.new xs,okB,(planF xs).1)):=by unfold Hid;rw[HS0.out,CP.planW,numsF,hx]
  have d0:=(hb2.cell (p:=⟨b,off,none⟩) hbl).trans c0;have hpat:∀b off,ao=some ⟨b,off,none⟩→∃cur,Blok w2 b 3 cur:=fun b off e=>ownsRow_block ho2 b (by rw[e];rfl)
  have hro:=(RowAt.owned ho2).1
  have hxl:xs.length≤4611686018427387904:=by
   have h2:=numsAcc_len hx;have h3:=cutL_length 44 w1;omega
  have HB2:=Lib.hid hb2;have HX:=Lib.hid hx;clear hx ho2 hb2 KN c0 c1 HS0
  by_cases hp:(planF xs).1=0
  ·have K:=Lib.hid (rNew_ok ao xs.length co xs w2 rfl hro hp)
   have HP:=Lib.hid hp;rw[hp] at HS;clear hp hro;go_wp2_with fail;refine K.out.mono ?_;rintro e w3⟨R',rs',rfl,hR3,hpa,hcb,hnb,hb3⟩;have hal:Below w3.heap.size w3 (w3.alloc (.cells #[.int .i64 0,.int .i64 (-1)] 55)):=(Below.refl _ _).alloc (Nat.le_refl _) _;have HR3:=Lib.hid (hR3.below hal);have HB3:=Lib.hid (onto (onto HB2.out hb3) hal)
   have HPT:=Lib.hid (fun b off (e:R'.pa=some ⟨b,off,none⟩)=>by
    obtain⟨cur,hk⟩:=hpat b off (hpa▸e)
    exact(⟨cur,(hk.kept hb3).kept hal⟩:∃cur,Blok (w3.alloc (.cells #[.int .i64 0,.int .i64 (-1)] 55)) b 3 cur))
   have HLO:=Lib.hid (show w.heap.size≤R'.cb∧w.heap.size≤R'.nb from⟨Nat.le_trans HB2.out.size hcb,Nat.le_trans HB2.out.size hnb⟩);clear hR3 hpa hcb hnb hb3 hal hpat K;go_wp2;go_quiet (fail);go_wp2;go_ret3;unfold RChange;rw[HS.out];refine⟨_,okB,rfl,Fr.of ?_,fun _=>⟨rfl,R',rfl,⟨⟨rs',?_⟩,InvP.new HP.out,⟨Nat.le_trans HB.out HLO.out.1,Nat.le_trans HB.out HLO.out.2⟩,?_⟩,fun j hj=>Or.inr ?_⟩⟩
   ·exact below_drewN HB3.out _
   ·exact HR3.out.drewN _
   ·intro b off e
    obtain⟨cur,hk⟩:=HPT.out b off e;exact⟨cur,hk⟩
   ·rcases hj with rfl|rfl
    ·exact HLO.out.1
    ·exact HLO.out.2
  ·have K:=Lib.hid (rNew_bad ao xs.length co xs w2 rfl hro hxl hp)
   have HP:=Lib.hid hp;generalize planF xs=pf at *;obtain⟨p1,p2⟩:=pf;dsimp only at K HS HP;clear hp hro hpat;go_wp2_with fail;refine K.out.mono ?_;rintro e w3⟨rfl,hb3⟩;have HB3:=Lib.hid (onto (onto HB2.out hb3) ((Below.refl _ _).alloc (Nat.le_refl _) (.cells #[.int .i64 (p1:Nat),.int .i64 p2] 55)));clear hb3 K;go_wp2;go_quiet (fail);go_wp2;go_ret3;unfold RChange;rw[HS.out];exact⟨_,okB,rfl,Fr.of (below_drewN HB3.out _),fun h=>absurd h HP.out⟩
 ·have HS:Hid (c.change [[112,108,97,110],w1]=(c,okB,1)):=by unfold Hid;rw[HS0.out,CP.planW,numsF,hx]
  clear hx KN;go_wp2;go_ret3;unfold RChange;rw[HS.out];exact⟨_,[],rfl,Fr.of hb2,fun h=>absurd h Nat.one_ne_zero⟩
theorem rOffC_any(base:Nat)(R:RL)(c:CP)(n:Int)(w:World)(h:RefC w base R c) :
 Calls Tryz.prog 96 #[.pointer (some ⟨R.cb,0,none⟩),.int .i64 n] w fun e w'=>e=.returned (.int .i64 (c.turn n 0).2)∧RefC w' base R (c.turn n 0).1∧Fr R.own w w':=by
 obtain⟨rs,hr⟩:=h.ref;exact(rOff_any R rs c n w hr).mono (fun _ _ q=>⟨q.1,h.step (q.2.2.mono (fun _ e=>Or.inr e)) (h.inv.turn n 0 (Or.inl rfl)) q.2.1,q.2.2.mono (fun _ e=>Or.inr e)⟩)
theorem rOnC_any(base:Nat)(R:RL)(c:CP)(n:Int)(w:World)(h:RefC w base R c) :
 Calls Tryz.prog 97 #[.pointer (some ⟨R.cb,0,none⟩),.int .i64 n] w fun e w'=>e=.returned (.int .i64 (c.turn n 1).2)∧RefC w' base R (c.turn n 1).1∧Fr R.own w w':=by
 obtain⟨rs,hr⟩:=h.ref;exact(rOn_any R rs c n w hr h.states).mono (fun _ _ q=>⟨q.1,h.step (q.2.2.mono (fun _ e=>Or.inr e)) (h.inv.turn n 1 (Or.inr rfl)) q.2.1,q.2.2.mono (fun _ e=>Or.inr e)⟩)
theorem rAskC_any(base:Nat)(R:RL)(c:CP)(n:Int)(w:World)(h:RefC w base R c) :
 Calls Tryz.prog 98 #[.pointer (some ⟨R.cb,0,none⟩),.int .i64 n] w fun e w'=>e=.returned (.int .i64 (c.ask n).2)∧RefC w' base R (c.ask n).1∧Fr R.own w w':=by
 obtain⟨rs,hr⟩:=h.ref;exact(rAsk_any R rs c n w hr).mono (fun _ _ q=>⟨q.1,h.step (q.2.2.mono (fun _ e=>Or.inl e)) (h.inv.ask n) ⟨rs,q.2.1⟩,q.2.2.mono (fun _ e=>Or.inl e)⟩)
theorem rSetN_any(base:Nat)(R:RL)(c:CP)(n v:Int)(w:World)(h:RefC w base R c) :
 Calls Tryz.prog 99 #[.pointer (some ⟨R.cb,0,none⟩),.int .i64 n,.int .i64 v] w fun e w'=>e=.returned (.int .i64 (c.set n v).2)∧RefC w' base R (c.set n v).1∧Fr R.own w w':=by
 obtain⟨rs,hr⟩:=h.ref;exact(rSet_any R rs c n v w hr).mono (fun _ _ q=>⟨q.1,h.step (q.2.2.mono (fun _ e=>Or.inr e)) (h.inv.set n v) q.2.1,q.2.2.mono (fun _ e=>Or.inr e)⟩)
set_option maxRecDepth 100000 in
set_option maxHeartbeats 3200000 in
theorem rOneC_any(base:Nat)(R:RL)(c:CP)(wa:Option Addr)(wc:Nat)(w0 w1:List UInt8)(w:World)(h:RefC w base R c)(h0:w0=[111,102,102]∨w0=[111,110]∨w0=[109,111,100,101])(hr:RowAt w wa (encTexts [w0,w1]))(h1:w1.length≤100000) :
 Calls Tryz.prog 42 #[.pointer (some ⟨R.cb,0,none⟩),.slice wa 2 wc] w (RChange base R c [w0,w1] w):=by
 obtain⟨b,off,rfl,hbl,hc⟩:=hr.at (by simp[encTexts]);have c0:w.cell? ⟨b,off,none⟩=some (.string ⟨w0.toArray⟩):=hc 0 _ rfl;have c1:w.cell? ⟨b,off+1,none⟩=some (.string ⟨w1.toArray⟩):=hc 1 _ rfl;have KN:=Lib.hid (rNums_any w1 44 w h1);rw[show((44:UInt8).toNat:Int)=44 from rfl] at KN;have HS0:Hid (c.change [w0,w1]=((c.oneW w0 w1).1,okB,(c.oneW w0 w1).2)):=change_one c w0 w1 (by rcases h0 with rfl|rfl|rfl<;>decide) (by rcases h0 with rfl|rfl|rfl<;>decide) (by rcases h0 with rfl|rfl|rfl<;>decide);have H:=Lib.hid h;have K1:=Lib.hid (rOffC_any base R c);have K2:=Lib.hid (rOnC_any base R c);have K3:=Lib.hid (rAskC_any base R c);clear hr hc h
 rcases nums_one w1 with⟨hn,hno⟩|⟨n,hn,hx1⟩
 ·have HS:Hid (c.change [w0,w1]=(c,okB,1)):=by unfold Hid;rw[HS0.out,CP.oneW,hn]
  have HNO:=Lib.hid hno;clear hn hno K1 K2 K3 HS0
  rcases h0 with rfl|rfl|rfl
  all_goals
   go_enter Tryz.func42,Tryz.ntmps42;go_wp2_with fail;refine KN.out.mono ?_;rintro e w2 (⟨xs,ao,co,hx,rfl,ho2,hb2⟩|⟨hx,rfl,hb2⟩)
   ·have d0:=(hb2.cell (p:=⟨b,off,none⟩) hbl).trans c0
    have hne:((xs.length:Int) != 1)=true:=by
     rw[bne_iff_ne];intro e;obtain⟨x,rfl⟩:=List.length_eq_one_iff.1 (show xs.length=1 by omega);exact HNO.out x hx
    clear hx ho2 KN c0 c1;go_wp2;go_ret3;unfold RChange;rw[HS.out];exact⟨_,[],rfl,Fr.of hb2,fun h=>absurd h Nat.one_ne_zero⟩
   ·clear hx KN
    go_wp2;go_ret3;unfold RChange;rw[HS.out];exact⟨_,[],rfl,Fr.of hb2,fun h=>absurd h Nat.one_ne_zero⟩
 ·have HS1:Hid (c.oneW w0 w1=if w0=[111,102,102] then c.turn n 0 else if w0=[111,110] then c.turn n 1 else c.ask n):=by unfold Hid;rw[CP.oneW,hn]
  have HX1:=Lib.hid hx1;clear hn hx1
  rcases h0 with rfl|rfl|rfl
  all_goals
   go_enter Tryz.func42,Tryz.ntmps42;go_wp2_with fail;refine KN.out.mono ?_;rintro e w2 (⟨xs,ao,co,hx,rfl,ho2,hb2⟩|⟨hx,rfl,hb2⟩);rotate_left
   ·exact absurd (hx.symm.trans HX1.out) (by simp)
   obtain rfl:xs=[n]:=Option.some.inj (hx.symm.trans HX1.out);have d0:=(hb2.cell (p:=⟨b,off,none⟩) hbl).trans c0;obtain⟨b2,off2,rfl,hbl2,x0⟩:=(RowAt.owned ho2).1.int 0 (by simp);have x0:w2.cell? ⟨b2,off2,none⟩=some (.int .i64 n):=x0;have H2:=H.out.below hb2;have HB2:=Lib.hid hb2;have k1:=Lib.hid (K1.out n w2 H2);have k2:=Lib.hid (K2.out n w2 H2);have k3:=Lib.hid (K3.out n w2 H2);clear hx ho2 KN c0 c1 K1 K2 K3 hb2 H2 HX1;simp only[reduceIte,List.cons.injEq] at HS1;go_wp2_with fail
   with_reducible first
    | refine k1.out.mono ?_
    | refine k2.out.mono ?_
    | refine k3.out.mono ?_
   rintro e w3⟨rfl,hC3,hF3⟩;go_wp2;go_ret3;unfold RChange;rw[HS0.out,HS1.out];exact⟨_,okB,rfl,Fr.trans (Fr.of HB2.out) hF3,fun _=>⟨rfl,R,rfl,hC3,fun j h=>Or.inl h⟩⟩
set_option maxRecDepth 100000 in
set_option maxHeartbeats 3200000 in
theorem rSetC_any(base:Nat)(R:RL)(c:CP)(wa:Option Addr)(wc:Nat)(w1 w2:List UInt8)(w:World)(h:RefC w base R c)(hr:RowAt w wa (encTexts [[115,101,116],w1,w2]))(h1:w1.length≤100000)(h2:w2.length≤100000) :
 Calls Tryz.prog 42 #[.pointer (some ⟨R.cb,0,none⟩),.slice wa 3 wc] w (RChange base R c [[115,101,116],w1,w2] w):=by
 obtain⟨b,off,rfl,hbl,hc⟩:=hr.at (by simp[encTexts]);have c0:w.cell? ⟨b,off,none⟩=some (.string ⟨([115,101,116]:List UInt8).toArray⟩):=hc 0 _ rfl;have c1:w.cell? ⟨b,off+1,none⟩=some (.string ⟨w1.toArray⟩):=hc 1 _ rfl;have c2:w.cell? ⟨b,off+2,none⟩=some (.string ⟨w2.toArray⟩):=hc 2 _ rfl;have KN:=Lib.hid (rNums_any w1 44 w h1);rw[show((44:UInt8).toNat:Int)=44 from rfl] at KN;have KM:=Lib.hid (fun W:World=>numberOf_any w2 W h2);have HS0:Hid (c.change [[115,101,116],w1,w2]=((c.setW w1 w2).1,okB,(c.setW w1 w2).2)):=change_set c w1 w2;have H:=Lib.hid h;have K1:=Lib.hid (rSetN_any base R c);clear hr hc h
 rcases nums_one w1 with⟨hn,hno⟩|⟨n,hn,hx1⟩
 ·have HS:Hid (c.change [[115,101,116],w1,w2]=(c,okB,1)):=by unfold Hid;rw[HS0.out,CP.setW,hn]
  have HNO:=Lib.hid hno;clear hn hno K1 HS0 KM;go_enter Tryz.func42,Tryz.ntmps42;go_wp2_with fail;refine KN.out.mono ?_;rintro e w4 (⟨xs,ao,co,hx,rfl,ho2,hb2⟩|⟨hx,rfl,hb2⟩)
  ·have d0:=(hb2.cell (p:=⟨b,off,none⟩) hbl).trans c0
   have hne:((xs.length:Int) != 1)=true:=by
    rw[bne_iff_ne];intro e;obtain⟨x,rfl⟩:=List.length_eq_one_iff.1 (show xs.length=1 by omega);exact HNO.out x hx
   clear hx ho2 KN c0 c1;go_wp2;go_ret3;unfold RChange;rw[HS.out];exact⟨_,[],rfl,Fr.of hb2,fun h=>absurd h Nat.one_ne_zero⟩
  ·clear hx KN
   go_wp2;go_ret3;unfold RChange;rw[HS.out];exact⟨_,[],rfl,Fr.of hb2,fun h=>absurd h Nat.one_ne_zero⟩
 ·have HX1:=Lib.hid hx1
  have hm:(numIs w2=false∧c.setW w1 w2=(c,1))∨(numIs w2=true∧c.setW w1 w2=c.set n (numN w2)):=by
   unfold CP.setW numIs numN;rw[hn]
   cases numF w2 with
   | none=>exact Or.inl ⟨rfl,rfl⟩
   | some v=>exact Or.inr ⟨rfl,rfl⟩
  clear hn hx1;go_enter Tryz.func42,Tryz.ntmps42;go_wp2_with fail;refine KN.out.mono ?_;rintro e w4 (⟨xs,ao,co,hx,rfl,ho2,hb2⟩|⟨hx,rfl,hb2⟩);rotate_left
  ·exact absurd (hx.symm.trans HX1.out) (by simp)
  obtain rfl:xs=[n]:=Option.some.inj (hx.symm.trans HX1.out);have d0:=(hb2.cell (p:=⟨b,off,none⟩) hbl).trans c0;have d2:=(hb2.cell (p:=⟨b,off+2,none⟩) hbl).trans c2;obtain⟨b2,off2,rfl,hbl2,x0⟩:=(RowAt.owned ho2).1.int 0 (by simp);have x0:w4.cell? ⟨b2,off2,none⟩=some (.int .i64 n):=x0;have k0:=Lib.hid (KM.out w4);have k1:=Lib.hid (K1.out n (numN w2) w4 (H.out.below hb2));have HB2:=Lib.hid hb2;clear hx ho2 KN KM c0 c1 c2 K1 hb2 HX1
  rcases hm with⟨hm,hs⟩|⟨hm,hs⟩
  ·rw[hm] at k0
   have HS:Hid (c.change [[115,101,116],w1,w2]=(c,okB,1)):=by unfold Hid;rw[HS0.out,hs]
   clear hm hs;go_wp2_with fail;refine k0.out.mono ?_;rintro e w5⟨rfl,rfl⟩;go_wp2;go_ret3;unfold RChange;rw[HS.out];exact⟨_,[],rfl,Fr.of HB2.out,fun h=>absurd h Nat.one_ne_zero⟩
  ·rw[hm] at k0
   have HS:Hid (c.change [[115,101,116],w1,w2]=((c.set n (numN w2)).1,okB,(c.set n (numN w2)).2)):=by unfold Hid;rw[HS0.out,hs]
   generalize numN w2=v at *;clear hm hs;go_wp2_with fail;refine k0.out.mono ?_;rintro e w5⟨rfl,rfl⟩;go_wp2_with fail;refine k1.out.mono ?_;rintro e w6⟨rfl,hC3,hF3⟩;go_wp2;go_ret3;unfold RChange;rw[HS.out];exact⟨_,okB,rfl,Fr.trans (Fr.of HB2.out) hF3,fun _=>⟨rfl,R,rfl,hC3,fun j h=>Or.inl h⟩⟩
theorem rChange_any(base:Nat)(R:RL)(c:CP)(wa:Option Addr)(wcp n:Nat)(ws:List (List UInt8))(w:World)(h:RefC w base R c)(hr:RowAt w wa (encTexts ws))(hn:ws.length=n)(hl:∀x∈ws,x.length≤100000)(hk:wordsN (ws.getD 0 [])=(n:Int)-1)(h0:0<n) :
 Calls Tryz.prog 42 #[.pointer (some ⟨R.cb,0,none⟩),.slice wa n wcp] w (RChange base R c ws w):=by
 rcases words_cases hk (by omega) with⟨e,hw⟩|⟨e,hw⟩
 ·obtain rfl:n=2:=by omega
  obtain⟨x,y,rfl⟩:∃x y,ws=[x,y]:=by
   match ws,hn with
   | [x,y],_=>exact⟨x,y,rfl⟩
  have hy:=hl y (by simp)
  rcases hw with hw|hw|hw|hw|hw
  all_goals(obtain rfl:x=_:=hw)
  ·exact rPlanC_any base R c wa wcp y w h hr hy
  ·exact rOneC_any base R c wa wcp _ y w h (Or.inl rfl) hr hy
  ·exact rOneC_any base R c wa wcp _ y w h (Or.inr (Or.inl rfl)) hr hy
  ·exact rOneC_any base R c wa wcp _ y w h (Or.inr (Or.inr rfl)) hr hy
  ·exact rSlotC_any base R c wa wcp y w h hr hy
 ·obtain rfl:n=3:=by omega
  obtain⟨x,y,z,rfl⟩:∃x y z,ws=[x,y,z]:=by
   match ws,hn with
   | [x,y,z],_=>exact⟨x,y,z,rfl⟩
  obtain rfl:x=_:=hw;exact rSetC_any base R c wa wcp y z w h hr (hl y (by simp)) (hl z (by simp))
theorem lastL_get(es:List Ent)(m i:Nat):(lastL es m)[i]?=if i<m then some (lastV ((i:Int)+1) es) else none:=by
 unfold lastL;rw[List.getElem?_map]
 split
 ·rename_i h;rw[List.getElem?_range h];rfl
 ·rename_i h;rw[List.getElem?_eq_none (by simp;omega)];rfl
theorem lastF_take(es:List Ent)(hf:∀k (hk:k<es.length),1≤es[k].frm∧es[k].frm≤16):∀k,k≤es.length→lastF (es.take k)=lastL (es.take k) 16
 | 0,_=>by rw[List.take_zero];decide +kernel
 | k+1,hk=>by
  have ih:=lastF_take es hf k (by omega);have h1:=hf k (by omega);rw[lastF_snoc es k (by omega),ih];apply List.ext_getElem?;intro i;rw[lastL_get]
  by_cases hm:es[k].frm=(i:Int)+1∧es[k].heard=true
  ·have he:(es[k].frm-1).toNat=i:=by omega
   rw[lastStep,if_pos hm.2,he,if_pos (by omega),lastV_hit _ es k (by omega) hm];rw[List.getElem?_set_self (by rw[lastL_length];omega)]
  ·rw[lastV_miss _ es k (by omega) hm,lastStep]
   by_cases hh:es[k].heard=true
   ·have he:(es[k].frm-1).toNat≠i:=fun e=>hm ⟨by omega,hh⟩
    rw[if_pos hh,List.getElem?_set_ne he,lastL_get]
   ·rw[if_neg hh,lastL_get]
theorem lastF_lastL{es:List Ent}(h:(chk es).1=0):lastF es=lastL es 16:=by
 have:=lastF_take es (fun k hk=>by have:=(chk_get h k hk).2.1;simpa only[nodeB,decide_eq_true_eq] using this) es.length (Nat.le_refl _)
 rwa [List.take_length] at this
set_option maxRecDepth 100000 in
theorem rViewOf_any(j:Int)(x:NP)(la:Option Addr)(n lc:Nat)(w:World)(hd:0≤x.d∧x.d≤3)(hs:0≤x.s∧x.s≤200) :
 Calls Tryz.prog 54 #[.agg #[.int .i64 j,.int .i64 x.st,.int .i64 x.val,.int .i64 x.m,.int .i64 x.d,.int .i64 x.s,.slice la n lc]] w fun e w'=>e=.returned (.string ⟨(x.viewT).toArray⟩)∧Below w.heap.size w w':=by
 have HV:Hid (x.viewT=textF x.m++32::(Lib.itoa x.d++32::Lib.itoa x.s)):=rfl;go_enter Tryz.func54,Tryz.ntmps54;go_upto_region 1 with(fail);obtain⟨W1,hW1⟩:∃W,W=w.alloc (.cells #[.int .i64 j,.int .i64 x.st,.int .i64 x.val,.int .i64 x.m,.int .i64 x.d,.int .i64 x.s,.slice la n lc] 99):=⟨_,rfl⟩
 rw[←hW1];have hB1:Blok W1 w.heap.size 99 #[.int .i64 j,.int .i64 x.st,.int .i64 x.val,.int .i64 x.m,.int .i64 x.d,.int .i64 x.s,.slice la n lc]:=by rw[hW1];exact Blok.new w _ _
 have hv1:Below w.heap.size w W1:=by rw[hW1];exact(Below.refl _ _).alloc (Nat.le_refl _) _
 clear hW1;obtain⟨b1,hb1⟩:∃b1,b1=w.heap.size:=⟨_,rfl⟩
 rw[←hb1] at hB1 ⊢;have x0:=hB1.cell 3 rfl;have x1:=hB1.cell 4 rfl;have x2:=hB1.cell 5 rfl;have hbl:=hB1.lt;have KT:=Lib.hid (fun(W:World)=>crewText_any x.m W);have KD:=Lib.hid (fun(W:World)=>decimal_any x.d W (by omega));have KS:=Lib.hid (fun(W:World)=>decimal_any x.s W (by omega));have hv2:Below w.heap.size w W1.drew:=hv1.drew;have lm:=textF_len48 x.m;have ld:(Lib.itoa x.d).length≤9:=itoa_le (by omega) (by omega);have ls:(Lib.itoa x.s).length≤9:=itoa_le (by omega) (by omega);clear hB1 hv1 hb1 hd hs;generalize textF x.m=tm at *;generalize Lib.itoa x.d=td at *;generalize Lib.itoa x.s=ts at *;have s1:(9223372036854775807<tm.length+1)=False:=eq_false (by omega);have s2:(9223372036854775807<tm.length+1+td.length)=False:=eq_false (by omega);have s3:(9223372036854775807<tm.length+1+td.length+1)=False:=eq_false (by omega);have s4:(9223372036854775807<tm.length+1+td.length+1+ts.length)=False:=eq_false (by omega)
 go_region_held3 (fun w'=>w'.cell? ⟨b1,3,none⟩=some (.int .i64 x.m)∧w'.cell? ⟨b1,4,none⟩=some (.int .i64 x.d)∧w'.cell? ⟨b1,5,none⟩=some (.int .i64 x.s)) (go_keep)
  (first
   | ((go_at_call 88;(with_reducible refine(KT.out _).mono ?_);rintro e w3⟨rfl,hb3⟩;have hv3:=onto hv2 hb3;have hl3:b1<w3.heap.size:=Nat.lt_of_lt_of_le hbl hb3.size;have d0:=(hb3.cell (p:=⟨b1,3,none⟩) hbl).trans x0;have d1:=(hb3.cell (p:=⟨b1,4,none⟩) hbl).trans x1;have d2:=(hb3.cell (p:=⟨b1,5,none⟩) hbl).trans x2))
   | ((go_at_call 52;(with_reducible refine(KD.out _).mono ?_);rintro e w4⟨rfl,hb4⟩;have hv4:=onto hv3 hb4;have hl4:b1<w4.heap.size:=Nat.lt_of_lt_of_le hl3 hb4.size;have q0:=(hb4.cell (p:=⟨b1,3,none⟩) hl3).trans d0;have q1:=(hb4.cell (p:=⟨b1,4,none⟩) hl3).trans d1;have q2:=(hb4.cell (p:=⟨b1,5,none⟩) hl3).trans d2))
   | ((go_at_call 52;(with_reducible refine(KS.out _).mono ?_);rintro e w5⟨rfl,hb5⟩;have hv5:=onto hv4 hb5;have p0:=(hb5.cell (p:=⟨b1,3,none⟩) hl4).trans q0;have p1:=(hb5.cell (p:=⟨b1,4,none⟩) hl4).trans q1;have p2:=(hb5.cell (p:=⟨b1,5,none⟩) hl4).trans q2)))
 go_wp2;go_ret
 have ht:(⟨tm.toArray⟩++⟨[32].toArray⟩++⟨td.toArray⟩++⟨[32].toArray⟩++⟨ts.toArray⟩:ByteArray)=⟨x.viewT.toArray⟩:=by
  rw[ba_append,ba_append,ba_append,ba_append,HV.out];simp
 refine⟨?_,hv5⟩
 show Ending.returned (.string (⟨tm.toArray⟩++⟨[32].toArray⟩++⟨td.toArray⟩++⟨[32].toArray⟩++⟨ts.toArray⟩))=_
 rw[ht]
def RTell(r:List UInt8×Nat)(w:World)(e:Ending)(w':World):Prop:=
 e=.returned (.tuple #[.string ⟨(if r.2=0 then r.1 else[]).toArray⟩,.int .i64 (r.2:Nat)])∧Below w.heap.size w w'
set_option maxRecDepth 100000 in
set_option maxHeartbeats 3200000 in
theorem rTell_any(base:Nat)(R:RL)(c:CP)(wa:Option Addr)(wcp n:Nat)(ws:List (List UInt8))(w:World)(h:RefC w base R c)(hr:RowAt w wa (encTexts ws))(hn:ws.length=n)(hn0:0<n)(hl:∀x∈ws,x.length≤100000) :
 Calls Tryz.prog 41 #[.pointer (some ⟨R.cb,0,none⟩),.slice wa n wcp] w (RTell (c.tell ws) w):=by
 obtain⟨w0,r,rfl⟩:∃w0 r,ws=w0::r:=by
  cases ws with
  | nil=>simp at hn;omega
  | cons x r=>exact⟨x,r,rfl⟩
 obtain⟨b,off,rfl,hbl,hc⟩:=hr.at (by simp[encTexts]);have c0:w.cell? ⟨b,off,none⟩=some (.string ⟨w0.toArray⟩):=hc 0 _ rfl;have hi0:(0:Int)<(n:Int):=by omega
 have HI:=Lib.hid h.inv;have HN:=Lib.hid hn;have HC:=Lib.hid hc;have HL:=Lib.hid hl;have HST:=Lib.hid h.states;obtain⟨rs,hr0⟩:=h.ref;have HR:=Lib.hid (fun(W:World) (hb:Below w.heap.size w W)=>hr0.below hb);have q1:=hr0.cells.2.1;clear h hr0 hr hn hc hl
 by_cases hn1:n=1
 ·subst hn1
  obtain rfl:r=[]:=by
   have h2:=HN.out;simpa using h2
  by_cases hA:w0=[99,114,101,119]
  ·subst hA
   have HS:Hid (c.tell [[99,114,101,119]]=(textF (c.crewN:Nat),0)):=by unfold Hid CP.tell;rw[if_pos ⟨rfl,rfl⟩]
   have KC:=Lib.hid (rCrew_any R rs c w (HR.out w (Below.refl _ _)) HI.out.dom (planF_ok HI.out.plan).2.2.2);generalize ((c.crewN:Nat):Int)=cr at *;have KT:=Lib.hid (fun W:World=>crewText_any cr W);go_enter Tryz.func41,Tryz.ntmps41;go_wp2_with fail;refine KC.out.mono ?_;rintro e w2⟨rfl,hb2⟩;go_wp2_with fail;refine(KT.out w2).mono ?_;rintro e w3⟨rfl,hb3⟩;go_wp2;go_ret2;unfold RTell;rw[HS.out];exact⟨rfl,onto hb2 hb3⟩
  by_cases hB:w0=[116,105,109,101]
  ·subst hB
   have HS:Hid (c.tell [[116,105,109,101]]=(Lib.itoa (c.time:Nat),0)):=by unfold Hid CP.tell;rw[if_neg (by simp),if_pos ⟨rfl,rfl⟩]
   have ht:=HI.out.time;have KT:=Lib.hid (decimal_any (c.time:Int) w (by omega));clear hA;go_enter Tryz.func41,Tryz.ntmps41;go_wp2_with fail;refine KT.out.mono ?_;rintro e w3⟨rfl,hb3⟩;go_wp2;go_ret2;unfold RTell;rw[HS.out];exact⟨rfl,hb3⟩
  have HS:Hid (c.tell [w0]=([],1)):=by unfold Hid CP.tell;rw[if_neg (fun h=>hA h.2),if_neg (fun h=>hB h.2),if_neg (by simp)]
  have g1:(w0==[99,114,101,119])=false:=by simpa using hA
  have g2:(w0==[116,105,109,101])=false:=by simpa using hB
  clear hA hB;go_enter Tryz.func41,Tryz.ntmps41;go_wp2;go_ret2;unfold RTell;rw[HS.out];exact⟨rfl,Below.refl _ _⟩
 by_cases hn2:n=2
 rotate_left
 ·have HS:Hid (c.tell (w0::r)=([],1)):=by unfold Hid CP.tell;rw[HN.out,if_neg (fun h=>hn1 h.1),if_neg (fun h=>hn1 h.1),if_neg (fun h=>hn2 h.1)]
  have e1:((n:Int)==1)=false:=by simp;omega
  have e2:((n:Int)==2)=false:=by simp;omega
  have e3:((n:Int) != 2)=true:=by simp;omega
  clear hn1 hn2 hi0;go_enter Tryz.func41,Tryz.ntmps41;go_wp2;go_ret2;unfold RTell;rw[HS.out];exact⟨rfl,Below.refl _ _⟩
 subst hn2;clear hn1
 obtain⟨w1,rfl⟩:∃w1,r=[w1]:=by
  have h2:=HN.out
  match r,h2 with
  | [x],_=>exact⟨x,rfl⟩
 have c1:w.cell? ⟨b,off+1,none⟩=some (.string ⟨w1.toArray⟩):=HC.out 1 _ rfl;have hl1:w1.length≤100000:=HL.out w1 (by simp)
 by_cases ha:askB w0=true
 rotate_left
 ·have HS:Hid (c.tell [w0,w1]=([],1)):=by unfold Hid CP.tell;rw[if_neg (by simp),if_neg (by simp),if_neg (fun h=>ha h.2)]
  have hx:¬(w0=[115,116,97,116,101]∨w0=[118,105,101,119]∨w0=[104,105,115,116,111,114,121]∨w0=[116,111,116,97,108]):=by simpa[askB] using ha
  rw[not_or,not_or,not_or] at hx;obtain⟨x1,x2,x3,x4⟩:=hx;have g1:(w0==[115,116,97,116,101])=false:=by simpa using x1
  have g2:(w0==[118,105,101,119])=false:=by simpa using x2
  have g3:(w0==[104,105,115,116,111,114,121])=false:=by simpa using x3
  have g4:(w0==[116,111,116,97,108])=false:=by simpa using x4
  clear x1 x2 x3 x4 ha hi0 c1;go_enter Tryz.func41,Tryz.ntmps41;go_wp2;go_ret2;unfold RTell;rw[HS.out];exact⟨rfl,Below.refl _ _⟩
 have HS0:Hid (c.tell [w0,w1]=(match numF w1 with|none=>([],1)|some n=>c.tellN w0 n)):=by
  unfold Hid CP.tell;rw[if_neg (by simp),if_neg (by simp),if_pos ⟨rfl,ha⟩];rfl
 have KN:=Lib.hid (numberOf_any w1 w hl1);have hask:w0=[115,116,97,116,101]∨w0=[118,105,101,119]∨w0=[104,105,115,116,111,114,121]∨w0=[116,111,116,97,108]:=by simpa[askB] using ha
 cases hn1:numF w1 with
 | none=>
  have HS:Hid (c.tell [w0,w1]=([],1)):=by unfold Hid;rw[HS0.out,hn1]
  have e2:numIs w1=false:=by unfold numIs;rw[hn1];rfl
  rw[e2] at KN;clear e2 hn1 ha HS0
  rcases hask with rfl|rfl|rfl|rfl
  all_goals
   go_enter Tryz.func41,Tryz.ntmps41;go_wp2_with fail;refine KN.out.mono ?_;rintro e w2⟨rfl,rfl⟩;go_wp2;go_ret2;unfold RTell;rw[HS.out];exact⟨rfl,Below.refl _ _⟩
 | some n=>
  have HS:Hid (c.tell [w0,w1]=c.tellN w0 n):=by unfold Hid;rw[HS0.out,hn1]
  have e2:numIs w1=true:=by unfold numIs;rw[hn1];rfl
  have e3:numN w1=n:=by unfold numN;rw[hn1];rfl
  rw[e2,e3] at KN;have KS:=Lib.hid (rState_any R rs c n w (HR.out w (Below.refl _ _)) HST.out);have KA:=Lib.hid (rActive_any R rs c n w (HR.out w (Below.refl _ _)) HST.out);have hon:=HI.out.on n;have hle:=on_le c n;clear e2 e3 hn1 ha HS0 q1
  rcases hask with rfl|hask
  ·have HS2:Hid (c.tell [[115,116,97,116,101],w1]=(if c.stT n=[] then nothB else c.stT n,0)):=by unfold Hid;rw[HS.out];rfl
   clear HS KA hon hle;generalize c.stT n=t at *
   by_cases ht:t=[]
   ·subst ht
    go_enter Tryz.func41,Tryz.ntmps41;go_wp2_with fail;refine KN.out.mono ?_;rintro e w2⟨rfl,rfl⟩;go_wp2_with fail;refine KS.out.mono ?_;rintro e w3⟨rfl,hb3⟩;go_wp2;go_ret2;unfold RTell;rw[HS2.out];exact⟨rfl,hb3⟩
   ·have hb:(t==[])=false:=by simpa using ht
    rw[if_neg ht] at HS2;clear ht;go_enter Tryz.func41,Tryz.ntmps41;go_wp2_with fail;refine KN.out.mono ?_;rintro e w2⟨rfl,rfl⟩;go_wp2_with fail;refine KS.out.mono ?_;rintro e w3⟨rfl,hb3⟩;go_wp2;go_ret2;unfold RTell;rw[HS2.out];exact⟨rfl,hb3⟩
  have HS2:Hid (c.tell [w0,w1]=(if w0=[118,105,101,119] then(c.on n).1.viewT else if w0=[104,105,115,116,111,114,121] then histT (c.on n).1.h else Lib.itoa (lastF (c.on n).1.h).sum,(c.on n).2)):=by
   unfold Hid;rw[HS.out,CP.tellN]
   rcases hask with rfl|rfl|rfl<;>rfl
  unfold actPost at KA;clear HS KS;generalize c.on n=q at *;obtain⟨x,k⟩:=q;dsimp only at hon hle HS2 KA
  by_cases hk:k=0
  rotate_left
  ·have hk1:decide ((0:Int)<((k:Nat):Int))=true:=decide_eq_true (by omega)
   have hkn:decide (0<k)=true:=decide_eq_true (by omega);have HK:=Lib.hid hk;clear hon hle hk
   rcases hask with rfl|rfl|rfl
   all_goals
    go_enter Tryz.func41,Tryz.ntmps41;go_wp2_with fail;refine KN.out.mono ?_;rintro e w2⟨rfl,rfl⟩;go_wp2_with fail;refine KA.out.mono ?_;rintro e w3⟨j,la,lc,rfl,hrow,hb3⟩;clear hrow;go_wp2;go_ret2;unfold RTell;rw[HS2.out];refine⟨?_,hb3.alloc hb3.size _⟩;rw[if_neg HK.out]
    rfl
  subst hk;obtain⟨m1,m2,m3,m4,m5⟩:=hon;have KV:=Lib.hid (fun(j:Int) (la:Option Addr) (lc:Nat) (W:World)=>rViewOf_any j x la x.h.length lc W m2 m3);have KH:=Lib.hid (fun(la:Option Addr) (lc:Nat) (W:World) (hW:RowAt W la (encEnts x.h))=>historyText_any la x.h.length lc x.h W rfl hW (by omega) m4);have hsb:=fun k=>sum_take_bound m4 k
  have hs16:=hsb 16;rw[List.take_of_length_le (by rw[lastF_length];exact Nat.le_refl _)] at hs16;rw[lastF_lastL m4] at hsb HS2 hs16;have KL:=Lib.hid (fun(la:Option Addr) (lc:Nat) (W:World) (hW:RowAt W la (encEnts x.h))=>totalOf_any la x.h.length lc x.h W rfl hW (by omega) hsb);generalize (lastL x.h 16).sum=sm at *;have KG:=Lib.hid (fun W:World=>signed_any sm W (by omega));obtain⟨hl,hhl⟩:∃hl,hl=x.h.length:=⟨_,rfl⟩
  rw[←hhl] at KA KV KH KL;clear m1 m2 m3 m4 m5 hsb hs16 hle hhl
  rcases hask with rfl|rfl|rfl
  ·rw[if_pos rfl] at HS2
   clear KH KL KG;go_enter Tryz.func41,Tryz.ntmps41;go_wp2_with fail;refine KN.out.mono ?_;rintro e w2⟨rfl,rfl⟩;go_wp2_with fail;refine KA.out.mono ?_;rintro e w3⟨j,la,lc,rfl,hrow,hb3⟩;have d0:=(hb3.cell (p:=⟨b,off,none⟩) hbl).trans c0;have hbl3:b<w3.heap.size:=Nat.lt_of_lt_of_le hbl hb3.size;have hal:=hb3.alloc hb3.size (.cells #[.int .i64 j,.int .i64 x.st,.int .i64 x.val,.int .i64 x.m,.int .i64 x.d,.int .i64 x.s,.slice la hl lc] 99);clear hrow c0 hb3;go_wp2_with fail;refine(KV.out _ _ _ _).mono ?_;rintro e w4⟨rfl,hb4⟩;go_wp2;go_ret2;unfold RTell;rw[HS2.out];exact⟨rfl,onto hal hb4⟩
  ·rw[if_neg (by decide),if_pos rfl] at HS2
   clear KV KL KG;go_enter Tryz.func41,Tryz.ntmps41;go_wp2_with fail;refine KN.out.mono ?_;rintro e w2⟨rfl,rfl⟩;go_wp2_with fail;refine KA.out.mono ?_;rintro e w3⟨j,la,lc,rfl,hrow,hb3⟩;have d0:=(hb3.cell (p:=⟨b,off,none⟩) hbl).trans c0;have hbl3:b<w3.heap.size:=Nat.lt_of_lt_of_le hbl hb3.size;have hal:=hb3.alloc hb3.size (.cells #[.int .i64 j,.int .i64 x.st,.int .i64 x.val,.int .i64 x.m,.int .i64 x.d,.int .i64 x.s,.slice la hl lc] 99);have KH3:=Lib.hid (KH.out la lc _ (hrow.below ((Below.refl _ _).alloc (Nat.le_refl _) (.cells #[.int .i64 j,.int .i64 x.st,.int .i64 x.val,.int .i64 x.m,.int .i64 x.d,.int .i64 x.s,.slice la hl lc] 99))));clear hrow c0 hb3 KH;go_wp2_with fail;refine KH3.out.mono ?_;rintro e w4⟨rfl,hb4⟩;go_wp2;go_ret2;unfold RTell;rw[HS2.out];exact⟨rfl,onto hal hb4⟩
  ·rw[if_neg (by decide),if_neg (by decide)] at HS2
   clear KV KH;go_enter Tryz.func41,Tryz.ntmps41;go_wp2_with fail;refine KN.out.mono ?_;rintro e w2⟨rfl,rfl⟩;go_wp2_with fail;refine KA.out.mono ?_;rintro e w3⟨j,la,lc,rfl,hrow,hb3⟩;have d0:=(hb3.cell (p:=⟨b,off,none⟩) hbl).trans c0;have hbl3:b<w3.heap.size:=Nat.lt_of_lt_of_le hbl hb3.size;have hal:=hb3.alloc hb3.size (.cells #[.int .i64 j,.int .i64 x.st,.int .i64 x.val,.int .i64 x.m,.int .i64 x.d,.int .i64 x.s,.slice la hl lc] 99);have KL3:=Lib.hid (KL.out la lc _ (hrow.below ((Below.refl _ _).alloc (Nat.le_refl _) (.cells #[.int .i64 j,.int .i64 x.st,.int .i64 x.val,.int .i64 x.m,.int .i64 x.d,.int .i64 x.s,.slice la hl lc] 99))));clear hrow c0 hb3 KL;go_wp2_with fail;refine KL3.out.mono ?_;rintro e w4⟨rfl,hb4⟩;go_wp2_with fail;refine(KG.out w4).mono ?_;rintro e w5⟨rfl,hb5⟩;go_wp2;go_ret2;unfold RTell;rw[HS2.out];exact⟨rfl,onto (onto hal hb4) hb5⟩
structure RYL where
 yb:Nat
 R:RL
 T:Nat
structure RYardAt(w:World)(base:Nat)(Z:RYL)(y:YP):Prop where
 blk:Blok w Z.yb 44 #[.pointer (some ⟨Z.R.cb,0,none⟩),.pointer (some ⟨Z.T,0,none⟩)]
 ref:RefC w base Z.R y.c
 tape:TapeAt w Z.T y.d
theorem RYardAt.below{w w':World}{base:Nat}{Z:RYL}{y:YP}(h:RYardAt w base Z y)(hb:Below w.heap.size w w'):RYardAt w' base Z y:=⟨h.blk.kept hb,h.ref.below hb,Blok.kept h.tape hb⟩
theorem RYardAt.weak{w:World}{base base':Nat}{Z:RYL}{y:YP}(h:RYardAt w base Z y)(hb:base'≤base):RYardAt w base' Z y:=⟨h.blk,h.ref.weak hb,h.tape⟩
theorem RefC.typed{S:Nat→Prop}{w w':World}{base:Nat}{R:RL}{c:CP}(h:RefC w base R c)(hf:Fr S w w')(hs:∀k,k<w.heap.size→S k→∃cur fz t,w.heap[k]?=some (.cells cur t fz)∧t≠3∧t≠146∧t≠94∧t≠99):RefC w' base R c:=by
 have no:∀k cur t,w.heap[k]?=some (.cells cur t (0,0))→t=3∨t=146∨t=94∨t=99→¬S k:=fun k cur t hk ht hS=>by
  obtain⟨cur',fz,t',h1,n1,n2,n3,n4⟩:=hs k (Array.getElem?_eq_some_iff.1 hk).1 hS;rw[h1] at hk;injection hk with hk;injection hk with _ e;subst e
  rcases ht with e|e|e|e
  ·exact n1 e
  ·exact n2 e
  ·exact n3 e
  ·exact n4 e
 obtain⟨rs,hr⟩:=h.ref;obtain⟨cur,hn⟩:=hr.nblk;refine⟨⟨rs,hr.kept hf (no _ _ _ hr.blk (Or.inr (Or.inr (Or.inl rfl)))) (no _ _ _ hn (Or.inr (Or.inr (Or.inr rfl)))) (fun b off e=>?_) (fun k cur hk=>no _ _ _ hk (Or.inr (Or.inl rfl)))⟩,h.inv,h.low,fun b off e=>?_⟩
 ·obtain⟨cur,hk⟩:=h.pat b off e
  exact no _ _ _ hk (Or.inl rfl)
 ·obtain⟨cur,hk⟩:=h.pat b off e
  exact⟨cur,(hf.block b hk.lt (no _ _ _ hk (Or.inl rfl))).trans hk⟩
theorem RefC.taped{w w':World}{base T:Nat}{R:RL}{c:CP}{d:Dk}(h:RefC w base R c)(ht:TapeAt w T d)(hf:Fr (fun k=>k=T) w w'):RefC w' base R c:=
 h.typed hf (fun k _ e=>by subst e;exact⟨_,_,_,ht,by decide,by decide,by decide,by decide⟩)
theorem RYardAt.taped{w w':World}{base:Nat}{Z:RYL}{y:YP}{d:Dk}(h:RYardAt w base Z y)(hf:Fr (fun k=>k=Z.T) w w')(ht:TapeAt w' Z.T d):RYardAt w' base Z ⟨y.c,d⟩:=
 ⟨(hf.block Z.yb h.blk.lt (fun e=>by
   have h1:=h.blk;rw[e,Blok,show w.heap[Z.T]?=_ from h.tape] at h1
   injection h1 with h1;injection h1 with _ e2;revert e2;decide)).trans h.blk,h.ref.taped h.tape hf,ht⟩
def RDo(base:Nat)(Z:RYL)(r:YP×List UInt8×Nat)(w:World)(e:Ending)(w':World):Prop:=
 ∃Z':RYL,Z'.T=Z.T∧e=.returned (.tuple #[.pointer (some ⟨Z'.yb,0,none⟩),.string ⟨r.2.1.toArray⟩,.int .i64 (r.2.2:Nat)])∧RYardAt w' base Z' r.1∧Fr (fun k=>k=Z.T) w w'
set_option maxRecDepth 100000 in
set_option maxHeartbeats 3200000 in
theorem rDo_any(base:Nat)(Z:RYL)(y:YP)(line:List UInt8)(w:World)(h:RYardAt w base Z y)(hl:line.length≤100000)(hbl:y.d.b.length≤262144)(hc : -9223372036854775808≤y.d.cut∧y.d.cut≤9223372036854775807) :
 Calls Tryz.prog 11 #[.pointer (some ⟨Z.yb,0,none⟩),.string ⟨line.toArray⟩] w (RDo base Z (y.doF line) w):=by
 have KS:=Lib.hid (refCut_any line 32 w hl);rw[show((32:UInt8).toNat:Int)=32 from rfl] at KS;obtain⟨ws,hws⟩:∃ws,ws=cutL 32 line:=⟨_,rfl⟩
 have hne:ws≠[]:=by rw[hws];exact cutL_ne 32 line
 have hpc:∀x∈ws,x.length≤100000:=fun x hx=>by rw[hws] at hx;exact Nat.le_trans (cutL_piece 32 line x hx) hl
 have HD:Hid (y.doF line=if wordsN (ws.getD 0 [])≠(ws.length:Int)-1 then(y,if (y.c.tell ws).2=0 then(y.c.tell ws).1 else[],(y.c.tell ws).2)
  else if (y.c.change ws).2.2≠0 then(y,[],(y.c.change ws).2.2)
  else if (apF y.d line).2≠0 then(⟨y.c,(apF y.d line).1⟩,[],(apF y.d line).2)
  else(⟨(y.c.change ws).1,(apF y.d line).1⟩,(y.c.change ws).2.1,0)):=by unfold Hid;rw[YP.doF,←hws]
 have hlen:ws.length≤100001:=by rw[hws];exact Nat.le_trans (cutL_length 32 line) (by omega)
 rw[←hws] at KS;have HY:=Lib.hid h;have HPC:=Lib.hid hpc;have HNE:=Lib.hid hne;have KW:=Lib.hid (fun W:World=>rWords_any (ws.getD 0 []) W);clear hws hpc hne h;go_enter Tryz.func11,Tryz.ntmps11;go_wp2_with fail;refine KS.out.mono ?_;rintro e w1⟨ao,n,co,rfl,hr1,hn1,_,hb1⟩;have hn0:0<n:=by rw[←hn1];exact List.length_pos_iff.2 HNE.out
 have HR1:=Lib.hid hr1
 obtain⟨b,off,rfl,hbl1,hcc⟩:=hr1.at (by
  obtain⟨x,r,e⟩:=List.exists_cons_of_ne_nil HNE.out
  rw[e];simp[encTexts])
 have q0:w1.cell? ⟨b,off,none⟩=some (.string ⟨(ws.getD 0 []).toArray⟩):=hcc 0 _ (by
  obtain⟨x,r,e⟩:=List.exists_cons_of_ne_nil HNE.out
  rw[e];rfl)
 rw[hn1] at HD;obtain⟨w0,hw0⟩:∃w0,w0=ws.getD 0 []:=⟨_,rfl⟩
 have HW0:=Lib.hid hw0.symm;rw[←hw0] at q0 HD KW;have hY1:=HY.out.below hb1;have y0:=hY1.blk.cell 0 rfl;have HY1:=Lib.hid hY1;have HB1:=Lib.hid hb1;have HN:=Lib.hid hn1;have hi0:(0:Int)<(n:Int):=by omega
 have hi1:(1:Int)≤(n:Int):=by omega
 have hwr:IntKind.i64.wrap ((n:Int)-1)=(n:Int)-1:=IntWalk.i64_in _ (by have:=hlen;omega);clear hr1 hcc hn1 hY1 hb1 KS HNE hw0;go_wp2_with fail;refine(KW.out w1).mono ?_;rintro e _⟨rfl,rfl⟩
 by_cases hd:wordsN w0=(n:Int)-1
 ·have HD2:Hid (y.doF line=if (y.c.change ws).2.2≠0 then(y,[],(y.c.change ws).2.2)
   else if (apF y.d line).2≠0 then(⟨y.c,(apF y.d line).1⟩,[],(apF y.d line).2)
   else(⟨(y.c.change ws).1,(apF y.d line).1⟩,(y.c.change ws).2.1,0)):=by unfold Hid;rw[HD.out,if_neg (fun h=>h hd)]
  have hdb:(wordsN w0==(n:Int)-1)=true:=beq_iff_eq.2 hd;have hdn:(wordsN w0 != (n:Int)-1)=false:=by rw[bne,hdb];rfl
  have HDW:=Lib.hid hd;clear hd HD KW;generalize hk:wordsN w0=kk at *;have HKW:=Lib.hid hk;clear hk;obtain⟨rs,hr⟩:=HY1.out.ref.ref;have hpat:∀b off,Z.R.pa=some ⟨b,off,none⟩→∃cur,Blok w1 b 3 cur:=HY1.out.ref.pat
  have hrl:0<rs.length:=by
   have h1:=HY1.out.ref.inv.dom;have h2:=planF_ok HY1.out.ref.inv.plan
   obtain⟨i,hi⟩:∃i,i∈y.c.plan:=by
    cases hp:y.c.plan with
    | nil=>rw[hp] at h2;simp at h2
    | cons x r=>exact⟨x,by simp⟩
   have h3:(y.c.f i).isSome=true:=by rw[h1 i];simpa using hi
   have h4:=hr.dom i h3
   cases rs with
   | nil=>simp at h4
   | cons a b=>simp
  have KC:=Lib.hid (rCopy_any Z.R rs y.c w1 hr hrl (fun b off e=>by
   obtain⟨cur,hk⟩:=hpat b off e
   exact hk.lt))
  have HPT:=Lib.hid hpat;clear hr hrl hpat;go_wp2_with fail;refine KC.out.mono ?_;rintro e w2⟨R2,rfl,hR2,hpa2,hcb2,hnb2,hb2⟩;have HZ:=Lib.hid HY1.out.ref.size
  have hC2:RefC w2 base R2 y.c:=⟨⟨rs,hR2⟩,HY1.out.ref.inv,⟨Nat.le_trans HZ.out hcb2,Nat.le_trans HZ.out hnb2⟩,fun b off e=>by
   obtain⟨cur,hk⟩:=HPT.out b off (hpa2▸e)
   exact⟨cur,hk.kept hb2⟩⟩
  have hrow2:=HR1.out.below hb2;have KCH:=Lib.hid (rChange_any base R2 y.c (some ⟨b,off,none⟩) co n ws w2 hC2 hrow2 HN.out HPC.out (by rw[HW0.out];exact HKW.out.trans HDW.out) hn0)
  have HOW:=Lib.hid (show ∀j,R2.own j→w1.heap.size≤j from fun j hj=>by
   rcases hj with rfl|rfl
   ·exact hcb2
   ·exact hnb2)
  have HB2:=Lib.hid hb2;clear KC hR2 hC2 hrow2 hpa2 hcb2 hnb2 hb2 q0 y0;go_wp2_with fail;refine KCH.out.mono ?_;rintro e w3⟨p,t,rfl,hF3,hok⟩;have hv3:Below w1.heap.size w1 w3:=hF3.base HB2.out HOW.out;have HV3:=Lib.hid (onto HB1.out hv3);have hY3:=HY1.out.below hv3;have y1:=hY3.blk.cell 1 rfl;have HY3:=Lib.hid hY3
  by_cases hz:(y.c.change ws).2.2=0
  ·obtain⟨rfl,R3,rfl,hC3,hown3⟩:=hok hz
   have HC3:=Lib.hid hC3;have KA:=Lib.hid (refAppend_tape Z.T y.d line w3 hY3.tape hl hbl hc);have HD3:Hid (y.doF line=if (apF y.d line).2≠0 then(⟨y.c,(apF y.d line).1⟩,[],(apF y.d line).2) else(⟨(y.c.change ws).1,(apF y.d line).1⟩,(y.c.change ws).2.1,0)):=by unfold Hid;rw[HD2.out,if_neg (fun h=>h hz)]
   rw[hz];clear hz hok hC3 hown3 hY3 HD2;generalize apF y.d line=q at *;obtain⟨q1,q2⟩:=q;dsimp only at KA HD3;go_wp2_with fail;refine KA.out.mono ?_;rintro e w4⟨rfl,hD4,hg4⟩;have hF4:Fr (fun k=>k=Z.T) w3 w4:=Fr.grown hg4 (fun k e=>(Option.some.inj e).symm);have HF4:=Lib.hid (Fr.trans (Fr.of HV3.out) hF4);have hY4:=HY3.out.taped hF4 hD4;have z1:=hY4.blk.cell 1 rfl;have HY4:=Lib.hid hY4;have HC4:=Lib.hid (HC3.out.taped HY3.out.tape hF4);have HD4:=Lib.hid hD4;clear hF4 hg4 hY4 hD4 y1
   by_cases ha:q2=0
   ·subst ha
    go_wp2;go_ret3;have hal:Below w4.heap.size w4 (w4.alloc (.cells #[.pointer (some ⟨R3.cb,0,none⟩),.pointer (some ⟨Z.T,0,none⟩)] 44)):=(Below.refl _ _).alloc (Nat.le_refl _) _;unfold RDo;rw[HD3.out,if_neg (fun h=>h rfl)];exact⟨⟨w4.heap.size,R3,Z.T⟩,rfl,rfl,⟨Blok.new w4 _ _,HC4.out.below hal,Blok.kept HD4.out hal⟩,HF4.out.off hal⟩
   ·have hq1:decide ((0:Int)<((q2:Nat):Int))=true:=decide_eq_true (by omega)
    have hq2:decide (0<q2)=true:=decide_eq_true (by omega);have HZ:=Lib.hid ha;clear ha;go_wp2;go_ret3;unfold RDo;rw[HD3.out,if_pos HZ.out];exact⟨Z,rfl,rfl,HY4.out,HF4.out⟩
  ·have HZ:=Lib.hid hz
   have HD3:Hid (y.doF line=(y,[],(y.c.change ws).2.2)):=by unfold Hid;rw[HD2.out,if_pos hz]
   clear hok HD2 hY3;generalize (y.c.change ws).2.2=q2 at *;have hq0:((q2:Nat):Int)≠0:=by omega
   have hq3:(((q2:Nat):Int)==0)=false:=beq_eq_false_iff_ne.2 hq0;have hq4:(q2==0)=false:=beq_eq_false_iff_ne.2 hz;have hq1:decide ((0:Int)<((q2:Nat):Int))=true:=decide_eq_true (by omega);have hq2:decide (0<q2)=true:=decide_eq_true (by omega);clear hz hq0;go_wp2;go_ret3;unfold RDo;rw[HD3.out];exact⟨Z,rfl,rfl,HY3.out,Fr.of HV3.out⟩
 ·have HD2:Hid (y.doF line=(y,if (y.c.tell ws).2=0 then(y.c.tell ws).1 else[],(y.c.tell ws).2)):=by unfold Hid;rw[HD.out,if_pos hd]
  have hdb:(wordsN w0==(n:Int)-1)=false:=beq_eq_false_iff_ne.2 hd;have hdn:(wordsN w0 != (n:Int)-1)=true:=by rw[bne,hdb];rfl
  clear hd HD KW;generalize hk:wordsN w0=kk at *;clear hk;have KT:=Lib.hid (rTell_any base Z.R y.c (some ⟨b,off,none⟩) co n ws w1 HY1.out.ref HR1.out HN.out hn0 HPC.out);unfold RTell at KT;generalize (if (y.c.tell ws).2=0 then(y.c.tell ws).1 else[])=ta at *;clear q0;go_wp2_with fail;refine KT.out.mono ?_;rintro e w2⟨rfl,hb2⟩;have hv2:=onto HB1.out hb2;go_wp2;go_ret3;unfold RDo;rw[HD2.out];exact⟨Z,rfl,rfl,HY.out.below hv2,Fr.of hv2⟩
set_option maxRecDepth 100000 in
set_option maxHeartbeats 1600000 in
theorem rNewYard_any(T:Nat)(d:Dk)(w:World)(hT:TapeAt w T d) :
 Calls Tryz.prog 9 #[.pointer (some ⟨T,0,none⟩)] w fun e w'=>∃Z:RYL,Z.T=T∧e=.returned (.pointer (some ⟨Z.yb,0,none⟩))∧RYardAt w' w.heap.size Z ⟨freshC,d⟩∧w.heap.size≤Z.yb∧Below w.heap.size w w':=by
 have hb0:Below w.heap.size w (w.alloc (.cells #[.int .i64 1,.int .i64 2,.int .i64 3] 3)):=(Below.refl _ _).alloc (Nat.le_refl _) _;have KN:=Lib.hid (rNew_ok (some ⟨w.heap.size,0,none⟩) 3 3 [1,2,3] _ rfl (RowAt.new_at w (encInts [1,2,3]) 3 _ rfl) (by decide +kernel));have HP:=Lib.hid (Blok.new w 3 #[.int .i64 1,.int .i64 2,.int .i64 3]);have HB0:=Lib.hid hb0;have HT:=Lib.hid (Blok.kept hT hb0);clear hb0 hT;go_enter Tryz.func9,Tryz.ntmps9;go_wp2_with fail;refine KN.out.mono ?_;rintro e w1⟨R,rs,rfl,hR,hpa,hcb,hnb,hb1⟩;have hal:Below w1.heap.size w1 (w1.alloc (.cells #[.int .i64 0,.int .i64 (-1)] 55)):=(Below.refl _ _).alloc (Nat.le_refl _) _;have hv2:=onto (onto HB0.out hb1) hal
 have hC:RefC (w1.alloc (.cells #[.int .i64 0,.int .i64 (-1)] 55)) w.heap.size R freshC:=⟨⟨rs,hR.below hal⟩,fresh_inv,⟨Nat.le_trans HB0.out.size hcb,Nat.le_trans HB0.out.size hnb⟩,fun b off e=>by
  rw[hpa] at e;injection e with e;injection e with e1 e2;subst e1
  exact⟨_,(Blok.kept HP.out hb1).kept hal⟩⟩
 have hT2:TapeAt (w1.alloc (.cells #[.int .i64 0,.int .i64 (-1)] 55)) T d:=Blok.kept (Blok.kept HT.out hb1) hal;have HC:=Lib.hid hC;have HT2:=Lib.hid hT2;have HV:=Lib.hid hv2;clear hal hv2 hC hT2 hR hpa hcb hnb hb1 KN;go_wp2;go_ret;generalize hW:w1.alloc (.cells #[.int .i64 0,.int .i64 (-1)] 55)=W at *;have hsz:w1.heap.size+1=W.heap.size:=by rw[←hW];simp
 have hal2:=(Below.refl W.heap.size W).alloc (Nat.le_refl _) (.cells #[.pointer (some ⟨R.cb,0,none⟩),.pointer (some ⟨T,0,none⟩)] 44);rw[hsz];exact⟨⟨W.heap.size,R,T⟩,rfl,rfl,⟨Blok.new _ _ _,HC.out.below hal2,Blok.kept HT2.out hal2⟩,HV.out.size,onto HV.out hal2⟩
set_option maxRecDepth 100000 in
theorem rRecover_any(T:Nat)(s:Dk)(l:List (List UInt8))(hP:Parse s.b l)(w:World)(hT:TapeAt w T s)(hs:s.b.length≤100000) :
 Calls Tryz.prog 63 #[.pointer (some ⟨T,0,none⟩)] w fun e w'=>∃v,e=.returned v∧w'.ownsRow w.heap.size 9 1 v l.length (encTexts l)∧TapeAt w' T ⟨s.b.take (l.flatMap recB).length,false,-1⟩∧w.grownBy w' (some T):=by
 obtain⟨b,o,c⟩:=s;dsimp only at hP hs;have KR:=Lib.hid (refReadT_any b l hP w hs)
 have hle:(l.flatMap recB).length≤b.length:=by
  obtain⟨_,r,h,_⟩:=hP;rw[h];simp
 generalize (l.flatMap recB).length=m at *;have hK:Blok w T 31 #[.string ⟨b.toArray⟩,.bool o,.int .i64 c]:=hT;have c0:=hK.cell 0 rfl;have HK:=Lib.hid hK;have hm2:(m:Int)≤(b.length:Int):=by omega
 clear hT hK hP;go_enter Tryz.func63,Tryz.ntmps63;go_wp2_with fail;refine KR.out.mono ?_;rintro e w1⟨v,rfl,hown,hb1⟩;have hK1:=HK.out.kept hb1;have hlt:=HK.out.lt;have k0:=hK1.cell 0 rfl;have k1:=hK1.cell 1 rfl;have k2:=hK1.cell 2 rfl;have f0:=hK1.frozen 0;have f1:=hK1.frozen 1;have f2:=hK1.frozen 2;have HK1:=Lib.hid hK1;have HO:=Lib.hid hown;have HB:=Lib.hid hb1;clear hK1 hown hb1 c0 KR;go_wp2;go_ret;have g1:=((HK1.out.set 0 (.string ⟨(b.take m).toArray⟩)).set 1 (.bool false)).set 2 (.int .i64 (-1));refine⟨v,rfl,?_,by simpa[TapeAt,bt_mid] using g1,?_⟩
 ·exact ownsRow_setCell_below (ownsRow_setCell_below (ownsRow_setCell_below HO.out hlt _) hlt _) hlt _
 ·exact grownBy_trans (grownBy_trans (grownBy_trans (below_grows HB.out _) (setCell_grows _ _ _ _)) (setCell_grows _ _ _ _)) (setCell_grows _ _ _ _)
def ROpen(base T:Nat)(s:Dk)(l:List (List UInt8))(w:World)(e:Ending)(w':World):Prop:=
 ((freshC.linesF 0 l).2.1=0∧∃Z:RYL,Z.T=T∧e=.returned (.tuple #[.pointer (some ⟨Z.yb,0,none⟩),.agg #[.int .i64 0,.int .i64 (-1)]])∧RYardAt w' base Z ⟨(freshC.linesF 0 l).1,⟨s.b.take (l.flatMap recB).length,false,-1⟩⟩∧Fr (fun k=>k=T) w w') ∨
 ((freshC.linesF 0 l).2.1≠0∧e=.returned (.tuple #[.pointer none,.agg #[.int .i64 ((freshC.linesF 0 l).2.1:Nat),.int .i64 (freshC.linesF 0 l).2.2]])∧Fr (fun k=>k=T) w w')
theorem RYardAt.taken{w:World}{base yb T:Nat}{R R3:RL}{c3:CP}{d:Dk}(hb:Blok w yb 44 #[.pointer (some ⟨R.cb,0,none⟩),.pointer (some ⟨T,0,none⟩)])(hC:RefC w base R3 c3)(hT:TapeAt w T d):RYardAt (w.setCell ⟨yb,0,none⟩ (.pointer (some ⟨R3.cb,0,none⟩))) base ⟨yb,R3,T⟩ ⟨c3,d⟩:=by
 have hF:Fr (fun k=>k=yb) w (w.setCell ⟨yb,0,none⟩ (.pointer (some ⟨R3.cb,0,none⟩))):=(Fr.refl (fun k=>k=yb) w).setCell (p:=⟨yb,0,none⟩) (Or.inl rfl) _
 have hne:T≠yb:=fun e=>by
  subst e;rw[Blok,show w.heap[T]?=_ from hT] at hb;injection hb with h1;injection h1 with _ e2;revert e2;decide
 exact⟨by have:=hb.set 0 (.pointer (some ⟨R3.cb,0,none⟩));simpa using this,hC.typed hF (fun k _ e=>by subst e;exact⟨_,_,_,hb,by decide,by decide,by decide,by decide⟩),(hF.block T (Blok.lt hT) hne).trans hT⟩
theorem RefAt.apart{w:World}{R:RL}{rs:List RN}{c:CP}(h:RefAt w R rs c){b:Nat}{t:TypeId}{cs:Array Value}(hb:Blok w b t cs)(h1:t≠94)(h2:t≠99):¬R.own b:=by
 obtain⟨cur,hn⟩:=h.nblk;rintro(rfl|rfl)
 ·rw[Blok,show w.heap[R.cb]?=_ from h.blk] at hb
  injection hb with e;injection e with _ e2;exact h1 e2.symm
 ·rw[Blok,show w.heap[R.nb]?=_ from hn] at hb
  injection hb with e;injection e with _ e2;exact h2 e2.symm
set_option maxRecDepth 200000 in
set_option maxHeartbeats 3200000 in
theorem rOpen_any(base T:Nat)(s:Dk)(l:List (List UInt8))(w:World)(hbz:base≤w.heap.size)(hT:TapeAt w T s)(hP:Parse s.b l)(hs:s.b.length≤100000)(hm:l.length≤300000) :
 Calls Tryz.prog 22 #[.pointer (some ⟨T,0,none⟩)] w (ROpen base T s l w):=by
 obtain⟨W0,hW0⟩:∃W,W=w.alloc (.cells #[.int .i64 0,.int .i64 0] 55):=⟨_,rfl⟩
 obtain⟨tb,htb⟩:∃tb,tb=w.heap.size:=⟨_,rfl⟩
 have hb0:Below w.heap.size w W0:=by rw[hW0];exact(Below.refl _ _).alloc (Nat.le_refl _) _
 have hTl:=Blok.lt hT;have F0:Blok W0 tb 55 #[.int .i64 0,.int .i64 0]:=by rw[hW0,htb];exact Blok.new w _ _
 have hT0:TapeAt W0 T s:=Blok.kept hT hb0;have KR:=Lib.hid (rRecover_any T s l hP W0 hT0 hs);have HL4:=Lib.hid (show ∀x∈l,x.length≤4000 from hP.1);have HB0:=Lib.hid hb0;have HF0:=Lib.hid F0;have HTB:=Lib.hid (show w.heap.size≤tb from by omega);have HTT:=Lib.hid (show tb≠T from by omega);have HBZ:=Lib.hid hbz;have HW0:=Lib.hid hW0.symm;have c0:=F0.cell 0 rfl;have c1:=F0.cell 1 rfl;clear hb0 F0 hT0 hP hTl hT hW0 hbz hs;go_enter Tryz.func22,Tryz.ntmps22;go_upto_region 1 with(fail);rw[←htb,HW0.out];clear htb;go_wp2_with fail;refine KR.out.mono ?_;rintro e w1⟨v,rfl,hown,hT1,hg1⟩;obtain⟨ra,rc,rfl⟩:=owned_shape hown;have F1:Blok w1 tb 55 #[.int .i64 0,.int .i64 0]:=(hg1.block tb HF0.out.lt (fun e=>HTT.out (Option.some.inj e))).trans HF0.out;have HFR:=Lib.hid (show Fr (fun k=>k=T) w w1 from Fr.trans (Fr.of HB0.out) (Fr.grown hg1 (fun k e=>(Option.some.inj e).symm)));have HF1:=Lib.hid F1;have HRW:=Lib.hid ((RowAt.owned hown).1);have KY:=Lib.hid (rNewYard_any T _ w1 hT1);obtain⟨d,hd⟩:∃d:Dk,d=⟨s.b.take (l.flatMap recB).length,false,-1⟩:=⟨_,rfl⟩
 rw[←hd] at KY hT1;have HD:=Lib.hid hd;have HT1:=Lib.hid hT1;clear hown hT1 hg1 F1 KR c0 c1 hd;go_wp2_with fail;refine KY.out.mono ?_;rintro e w2⟨⟨yb,R0,T'⟩,hT',rfl,hY2,hyb,hb2⟩;dsimp only at hT' hyb ⊢;subst hT';have HY2:=Lib.hid hY2;have HB2:=Lib.hid hb2;have HYB:=Lib.hid hyb;obtain⟨nl,hnl⟩:∃nl,nl=l.length:=⟨_,rfl⟩
 have HNL:=Lib.hid hnl;have HLEN:=Lib.hid (show l.length≤300000 from hm);rw[←hnl] at hm ⊢;have hl0:(freshC.linesF 0 (l.take 0)).2.1=0:=rfl;have HHL0:=Lib.hid hl0;have HI0:Hid (RYardAt w2 w1.heap.size ⟨yb,R0,T'⟩ ⟨(freshC.linesF 0 (l.take 0)).1,d⟩):=by unfold Hid;rw[List.take_zero];exact HY2.out
 clear hnl hY2 hb2 hyb KY hl0;go_wp2;go_loopw [6] (fun i wr=>∃(k:Nat) (R:RL),k≤nl∧i=.int .i64 k∧Hid ((freshC.linesF 0 (l.take k)).2.1=0)∧Hid (RYardAt wr w1.heap.size ⟨yb,R,T'⟩ ⟨(freshC.linesF 0 (l.take k)).1,d⟩)∧Below w1.heap.size w1 wr) (fun i _=>nl-(intOf i).toNat)
 case atStart=>exact⟨0,R0,Nat.zero_le _,rfl,HHL0,HI0,HB2.out⟩
 case round=>
  clear HHL0 HI0 HY2 HB2;obtain⟨k,R,hk,rfl,hok,hY,hb⟩:=hrel
  by_cases hlt:k<nl
  ·have hkl:k<l.length:=by rw[←HNL.out];exact hlt
   obtain⟨lb,lo,rfl,hlb,ct⟩:=text_cell (HRW.out.below hb) k hkl;have hl4:l[k].length≤4000:=HL4.out _ (List.getElem_mem hkl);have HNX:=Lib.hid (fun h2=>linesF_next l freshC k hkl hok.out h2);have HSP:=Lib.hid (fun h2=>linesF_stop l freshC 0 k hkl hok.out h2);have hi0:(0:Int)≤(k:Int):=by omega
   have hi1:(k:Int)<(nl:Int):=by omega
   clear hok;generalize (freshC.linesF 0 (l.take k)).1=c at *;generalize l[k]=line at *;have KS:=Lib.hid (refCut_any line 32 wr (by omega));rw[show((32:UInt8).toNat:Int)=32 from rfl] at KS;obtain⟨ws,hws⟩:∃ws,ws=cutL 32 line:=⟨_,rfl⟩
   have hne:ws≠[]:=by rw[hws];exact cutL_ne 32 line
   have hpc:∀x∈ws,x.length≤100000:=fun x hx=>by rw[hws] at hx;exact Nat.le_trans (cutL_piece 32 line x hx) (by omega)
   have hlen:ws.length≤100001:=by rw[hws];exact Nat.le_trans (cutL_length 32 line) (by omega)
   have HDF:Hid (c.lineF line=if wordsN (ws.getD 0 [])≠(ws.length:Int)-1 then(c,1) else((c.change ws).1,(c.change ws).2.2)):=by unfold Hid;rw[CP.lineF,←hws]
   rw[←hws] at KS;have HPC:=Lib.hid hpc;have HNE:=Lib.hid hne;have HBW:=Lib.hid hb;clear hws hpc hne hb;go_wp2_with fail;refine KS.out.mono ?_;rintro e w3⟨ao,n,co,rfl,hr3,hn3,_,hb3⟩;have hn0:0<n:=by rw[←hn3];exact List.length_pos_iff.2 HNE.out
   have HR3:=Lib.hid hr3
   obtain⟨b,off,rfl,hbl,hcc⟩:=hr3.at (by
    obtain⟨x,r,e⟩:=List.exists_cons_of_ne_nil HNE.out
    rw[e];simp[encTexts])
   have q0:w3.cell? ⟨b,off,none⟩=some (.string ⟨(ws.getD 0 []).toArray⟩):=hcc 0 _ (by
    obtain⟨x,r,e⟩:=List.exists_cons_of_ne_nil HNE.out
    rw[e];rfl)
   rw[hn3] at HDF hlen;obtain⟨w0,hw0⟩:∃w0,w0=ws.getD 0 []:=⟨_,rfl⟩
   have HW3:=Lib.hid hw0.symm;rw[←hw0] at q0 HDF;have KW:=Lib.hid (fun W:World=>rWords_any w0 W);have HY3:=Lib.hid (hY.out.below hb3);have y0:=HY3.out.blk.cell 0 rfl;have HB3:=Lib.hid (onto HBW.out hb3);have HN:=Lib.hid hn3;have ji0:(0:Int)<(n:Int):=by omega
   have ji1:(1:Int)≤(n:Int):=by omega
   have hwr:IntKind.i64.wrap ((n:Int)-1)=(n:Int)-1:=IntWalk.i64_in _ (by omega);have hF3:=HF1.out.kept HB3.out;have f0:=hF3.cell 0 rfl;have f1:=hF3.cell 1 rfl;have z0:=hF3.frozen 0;have z1:=hF3.frozen 1;have HFF:=Lib.hid hF3;clear hr3 hcc hn3 hb3 KS HNE hw0 hY ct hF3 HBW;go_wp2_with fail;refine(KW.out w3).mono ?_;rintro e _⟨rfl,rfl⟩
   by_cases hd:wordsN w0=(n:Int)-1
   ·have HL3:Hid (c.lineF line=((c.change ws).1,(c.change ws).2.2)):=by unfold Hid;rw[HDF.out,if_neg (fun h=>h hd)]
    have hdb:(wordsN w0==(n:Int)-1)=true:=beq_iff_eq.2 hd;have HDW:=Lib.hid hd;clear hd HDF KW f0 f1 z0 z1;generalize hk2:wordsN w0=kk at *;have HKW:=Lib.hid hk2;clear hk2;have KCH:=Lib.hid (rChange_any w1.heap.size R c (some ⟨b,off,none⟩) co n ws w3 HY3.out.ref HR3.out HN.out HPC.out (by rw[HW3.out];exact HKW.out.trans HDW.out) hn0);clear q0;go_wp2_with fail;refine KCH.out.mono ?_;rintro e w4⟨p,t,rfl,hF4,hok4⟩;obtain⟨rs,hr⟩:=HY3.out.ref.ref;have hB4:Blok w4 yb 44 #[.pointer (some ⟨R.cb,0,none⟩),.pointer (some ⟨T',0,none⟩)]:=(hF4.block yb HY3.out.blk.lt (hr.apart HY3.out.blk (by decide) (by decide))).trans HY3.out.blk;have hT4:TapeAt w4 T' d:=(hF4.block T' (Blok.lt HY3.out.tape) (hr.apart HY3.out.tape (by decide) (by decide))).trans HY3.out.tape;have hQ4:Blok w4 tb 55 #[.int .i64 0,.int .i64 0]:=(hF4.block tb HFF.out.lt (hr.apart HFF.out (by decide) (by decide))).trans HFF.out
    have hv4:Below w1.heap.size w1 w4:=hF4.base HB3.out (fun j hj=>by
     rcases hj with rfl|rfl
     ·exact HY3.out.ref.low.1
     ·exact HY3.out.ref.low.2)
    have hV5:Below w1.heap.size w1 (w4.setCell ⟨yb,0,none⟩ (.pointer p)):=hv4.setCell HYB.out _;have y4:=hB4.cell 0 rfl;have yf:=hB4.frozen 0;have HV5:=Lib.hid hV5
    by_cases hz:(c.change ws).2.2=0
    ·obtain⟨rfl,R3,rfl,hC3,hown3⟩:=hok4 hz
     have HN2:=Lib.hid (HNX.out (by rw[HL3.out];exact hz));have HC3:Hid (RYardAt (w4.setCell ⟨yb,0,none⟩ (.pointer (some ⟨R3.cb,0,none⟩))) w1.heap.size ⟨yb,R3,T'⟩ ⟨(freshC.linesF 0 (l.take (k+1))).1,d⟩):=by unfold Hid;rw[HN2.out,HL3.out];exact RYardAt.taken hB4 hC3 hT4
     have HO3:Hid ((freshC.linesF 0 (l.take (k+1))).2.1=0):=by unfold Hid;rw[HN2.out]
     rw[hz];clear hz hok4 hC3 hown3 hF4 hB4 hT4 hQ4 hv4 hV5 KCH HNX HSP hr;go_wp2;go_roundw
     case rel=>exact⟨k+1,R3,by omega,by go_num,HO3,HC3,HV5.out⟩
     case measure=>simp[intOf];omega
    ·have HZ:=Lib.hid hz
     have HS3:=Lib.hid (HSP.out (by rw[HL3.out];exact hz));rw[HL3.out] at HS3;dsimp only at HS3
     have hty:tb≠yb:=fun e=>by
      subst e;rw[Blok,show w4.heap[tb]?=_ from hB4] at hQ4;injection hQ4 with e1;injection e1 with _ e2;revert e2;decide
     have hQ5:Blok (w4.setCell ⟨yb,0,none⟩ (.pointer p)) tb 55 #[.int .i64 0,.int .i64 0]:=hQ4.setOther 0 _ hty;generalize (c.change ws).2.2=q2 at *;have hq1:decide ((0:Int)<((q2:Nat):Int))=true:=decide_eq_true (by omega);have hq2:decide (0<q2)=true:=decide_eq_true (by omega);clear hz hok4 hF4 hB4 hT4 hQ4 hv4 hV5 KCH HNX HSP hr;go_upto_region 11 with(fail);generalize w4.setCell ⟨yb,0,none⟩ (.pointer p)=w5 at *;have f0:=hQ5.cell 0 rfl;have f1:=hQ5.cell 1 rfl;have z0:=hQ5.frozen 0;have z1:=hQ5.frozen 1;go_wp2;refine bodyPost_ret (v:=.tuple #[.pointer none,.agg #[.int .i64 (q2:Nat),.int .i64 k]]) (by simp[results,Tryz.results22,go_sem,f0,f1]) rfl ?_;refine Or.inr ⟨by rw[HS3.out];exact HZ.out,by rw[HS3.out];simp,?_⟩;exact((HFR.out.off HV5.out).setCell (p:=⟨tb,0,none⟩) (Or.inr HTB.out) _).setCell (p:=⟨tb,1,none⟩) (Or.inr HTB.out) _
   ·have HL3:Hid (c.lineF line=(c,1)):=by unfold Hid;rw[HDF.out,if_pos hd]
    have hdb:(wordsN w0==(n:Int)-1)=false:=beq_eq_false_iff_ne.2 hd;have HS3:=Lib.hid (HSP.out (by rw[HL3.out];exact Nat.one_ne_zero));rw[HL3.out] at HS3;dsimp only at HS3;clear hd HDF HNX HSP KW;generalize hk2:wordsN w0=kk at *;clear hk2;go_wp2;refine bodyPost_ret (v:=.tuple #[.pointer none,.agg #[.int .i64 1,.int .i64 k]]) (by simp[results,Tryz.results22,go_sem,f0,f1]) rfl ?_;refine Or.inr ⟨by rw[HS3.out];exact Nat.one_ne_zero,by rw[HS3.out];simp,?_⟩;exact((HFR.out.off HB3.out).setCell (p:=⟨tb,0,none⟩) (Or.inr HTB.out) _).setCell (p:=⟨tb,1,none⟩) (Or.inr HTB.out) _
  ·obtain rfl:k=nl:=by omega
   have HH:Hid (freshC.linesF 0 (l.take k)=freshC.linesF 0 l):=by unfold Hid;rw[HNL.out,List.take_length]
   have HY3:=Lib.hid hY.out;have HB:=Lib.hid hb;have hF3:=HF1.out.kept hb;have f0:=hF3.cell 0 rfl;have f1:=hF3.cell 1 rfl;have z0:=hF3.frozen 0;have z1:=hF3.frozen 1;have hlt3:=hF3.lt;clear hY hb hF3;go_wp2_with fail;refine(fine_any _).mono ?_;rintro e w5⟨rfl,hb5⟩;obtain⟨g0,g1,y0,y1,_⟩:=keep2 hb5 hlt3 f0 f1 z0 z1;go_wp2;refine bodyPost_ret (v:=.tuple #[.pointer (some ⟨yb,0,none⟩),.agg #[.int .i64 0,.int .i64 (-1)]]) (by simp[results,Tryz.results22,go_sem,g0,g1]) rfl ?_;have hFS:Fr (fun j=>j=tb) w5 ((w5.setCell ⟨tb,0,none⟩ (.int .i64 0)).setCell ⟨tb,1,none⟩ (.int .i64 (-1))):=((Fr.refl (fun j=>j=tb) w5).setCell (p:=⟨tb,0,none⟩) (Or.inl rfl) _).setCell (p:=⟨tb,1,none⟩) (Or.inl rfl) _;have hQ5:=(HF1.out.kept HB.out).kept hb5;have hY5:=HY3.out.below hb5;refine Or.inl ⟨by rw[←HH.out];exact hok.out,⟨yb,R,T'⟩,rfl,rfl,?_,Fr.then (HFR.out.off (onto HB.out hb5)) hFS (fun i e=>Or.inr (by rw[e];exact HTB.out))⟩;rw[←HH.out,←HD.out];have hsz:=HFR.out.size
   have hyt:yb≠tb:=fun e=>by
    subst e;rw[Blok,show w5.heap[yb]?=_ from hY5.blk] at hQ5;injection hQ5 with e1;injection e1 with _ e2;revert e2;decide
   have htt:T'≠tb:=fun e=>HTT.out e.symm
   exact RYardAt.weak ⟨(hFS.block yb hY5.blk.lt hyt).trans hY5.blk,hY5.ref.typed hFS (fun j _ e=>by subst e;exact⟨_,_,_,hQ5,by decide,by decide,by decide,by decide⟩),(hFS.block T' (Blok.lt hY5.tape) htt).trans hY5.tape⟩ (Nat.le_trans HBZ.out hsz)
theorem RefAt.names{w:World}{R:RL}{rs:List RN}{c:CP}(h:RefAt w R rs c)(hI:InvP c):rs.map RN.n=namesOf c.plan:=by
 refine rising_eq h.rise (names_rising _) (fun x=>?_);have h1:=planF_ok hI.plan;rw[names_mem h1.2.2.2 x];have h2:=hI.dom x
 constructor
 ·intro hx
  obtain⟨r,hr,rfl⟩:=List.mem_map.1 hx;obtain⟨i,hi,rfl⟩:=List.mem_iff_getElem.1 hr;have h3:=(h.each i hi).1;rw[h3] at h2;simpa using h2.symm
 ·intro hx
  exact h.dom x (by rw[h2];simpa using hx)
set_option maxRecDepth 200000 in
set_option maxHeartbeats 3200000 in
theorem rText_any(base:Nat)(Z:RYL)(y:YP)(w:World)(h:RYardAt w base Z y) :
 Calls Tryz.prog 14 #[.pointer (some ⟨Z.yb,0,none⟩)] w fun e w'=>e=.returned (.string ⟨(y.c.textY).toArray⟩)∧Below w.heap.size w w':=by
 have c0:=h.blk.cell 0 rfl;have hI:=h.ref.inv;have ht:=hI.time;obtain⟨rs,hr⟩:=h.ref.ref;have c1:=hr.cells.2.1;have KI:=Lib.hid (decimal_any (y.c.time:Int) w (by omega));have hit:(Lib.itoa (y.c.time:Int)).length≤9:=itoa_le (by omega) (by omega);have HB:=Lib.hid (fun(W:World) (hb:Below w.heap.size w W)=>(h.blk.kept hb).cell 0 rfl);have HR:=Lib.hid (fun(W:World) (hb:Below w.heap.size w W)=>hr.below hb);have HI:=Lib.hid hI;have hnm:=hr.names hI;clear h hr hI;generalize y.c=c at *;obtain⟨nn,hnn⟩:∃nn,nn=rs.length:=⟨_,rfl⟩
 have HNN:=Lib.hid hnn;have hns:(namesOf c.plan).length=nn:=by rw[←hnm,List.length_map,hnn]
 have HNE:Hid (∀k (hk:k<rs.length) (hk2:k<(namesOf c.plan).length),(namesOf c.plan)[k]=rs[k].n):=fun k hk hk2=>by
  simp only[←hnm,List.getElem_map]
 have HTX:Hid (c.textK 0=[116,105,109,101,32]++(Lib.itoa (c.time:Int)++[10])):=by unfold Hid CP.textK;simp
 have HTY:Hid (c.textY=c.textK nn):=by unfold Hid CP.textK CP.textY;rw[←hns,List.take_length]
 have HNM:=Lib.hid (fun k (hk:k<(namesOf c.plan).length)=>textK_next c k hk);have HLN:=Lib.hid (fun k (hk:k≤(namesOf c.plan).length)=>textK_len HI.out k hk);have HMM:=Lib.hid (fun x (hx:x∈namesOf c.plan)=>(planF_ok HI.out.plan).2.2.2 x ((names_mem (planF_ok HI.out.plan).2.2.2 x).1 hx));have hn16:=names_len c.plan;have HNS:=Lib.hid hns;have HST:=Lib.hid (show ∀i x,c.f i=some x→x.st=0∨x.st=1∨x.st=2 from fun i x hf=>(HI.out.node i x hf).st);obtain⟨t0,ht0⟩:∃t0,t0=Lib.itoa (c.time:Int):=⟨_,rfl⟩
 rw[←ht0] at KI hit HTX;have s1:(9223372036854775807<5+t0.length)=False:=eq_false (by omega);have s2:(9223372036854775807<5+t0.length+1)=False:=eq_false (by omega);clear ht0 hnn hnm;rw[hns] at hn16;clear hns;go_enter Tryz.func14,Tryz.ntmps14;go_wp2_with fail;refine KI.out.mono ?_;rintro e w1⟨rfl,hb1⟩;have HB1:=Lib.hid hb1;clear KI c0 c1 hb1;go_wp2;go_loopw [3,4] (fun s3 i wr=>∃k:Nat,k≤nn∧i=.int .i64 k∧s3=.string ⟨(c.textK k).toArray⟩∧Below w.heap.size w wr) (fun _ i _=>nn-(intOf i).toNat)
 case atStart=>exact⟨0,Nat.zero_le _,rfl,congrArg Value.string (by rw[HTX.out];apply ByteArray.ext;apply Array.ext';simp),HB1.out⟩
 case round=>
  obtain⟨k,hk,rfl,rfl,hb⟩:=hrel;have hr:=HR.out wr hb;obtain⟨e0,e1,e2,e3,e4⟩:=hr.cells;rw[←HNN.out] at e4;have h0:=HB.out wr hb
  by_cases hlt:k<nn
  ·have hkl:k<rs.length:=by rw[←HNN.out];exact hlt
   have hkn:k<(namesOf c.plan).length:=by rw[HNS.out];exact hlt
   obtain⟨a0,a1,a2,a3,a4,a5,a6⟩:=hr.at k hkl;obtain⟨hf,hrow⟩:=hr.each k hkl;have hnx:=HNM.out k hkn;have hlk:=HLN.out k (by omega);have hnb:=HMM.out _ (List.getElem_mem hkn);rw[HNE.out k hkl hkn] at hnx hnb;have hrw:RowAt wr rs[k].la (encEnts rs[k].x.h):=(RowAt.owned hrow).1;clear hrow;generalize rs[k]=r at *;have hon:(c.on r.n)=if r.x.st=2 then(r.x,0) else(NP0,11):=by unfold CP.on;rw[hf]
   have hx2:=HST.out _ _ hf;have hnd:=HI.out.on r.n;have HNX:=Lib.hid hnx;have lv0:=viewT_len HI.out r.n;have ls:=stT_len c r.n;have HND:Hid (c.nodeT r.n=Lib.itoa r.n++32::(c.stT r.n++((if (c.on r.n).2=0 then 32::((c.on r.n).1.viewT++32::histT (c.on r.n).1.h) else[])++[10]))):=rfl;rw[hon] at HND hnd lv0;have HRW:=Lib.hid hrw;simp only[nodeB,decide_eq_true_eq] at hnb;have li:(Lib.itoa r.n).length≤9:=itoa_le (by omega) (by omega);have hi0:(0:Int)≤(k:Int):=by omega
   have hi1:(k:Int)<(nn:Int):=by omega
   have KD:=Lib.hid (fun W:World=>decimal_any r.n W (by omega));have KS:=Lib.hid (fun(W:World) (hb:Below w.heap.size w W)=>rState_any Z.R rs c r.n W (HR.out W hb) HST.out);have HBB:=Lib.hid hb;have HX2:=Lib.hid hx2;obtain⟨W1,hW1⟩:∃W,W=wr.alloc (.cells #[.int .i64 r.n,.int .i64 r.x.st,.int .i64 r.x.val,.int .i64 r.x.m,.int .i64 r.x.d,.int .i64 r.x.s,.slice r.la r.x.h.length r.lc] 99):=⟨_,rfl⟩
   obtain⟨nb,hnb0⟩:∃nb,nb=wr.heap.size:=⟨_,rfl⟩
   have hA:Below wr.heap.size wr W1:=by rw[hW1];exact(Below.refl _ _).alloc (Nat.le_refl _) _
   have B1:Blok W1 nb 99 #[.int .i64 r.n,.int .i64 r.x.st,.int .i64 r.x.val,.int .i64 r.x.m,.int .i64 r.x.d,.int .i64 r.x.s,.slice r.la r.x.h.length r.lc]:=by rw[hW1,hnb0];exact Blok.new wr _ _
   have hv1:=onto hb hA;have HW1:=Lib.hid hW1.symm;have HNB:=Lib.hid hnb0.symm;have HRW1:=Lib.hid (HRW.out.below hA);obtain⟨tk,htk⟩:∃tk,tk=c.textK k:=⟨_,rfl⟩
   rw[←htk] at hlk HNX;rw[←htk];clear htk hf hrw hnx hr hb hA hW1 hnb0 hx2 hon;go_upto_region 6 with(fail);rw[HNB.out,HW1.out];clear a0 a1 a2 a3 a4 a5 a6 e0 e1 e2 e3 e4 h0;obtain⟨tst,htst⟩:∃t,t=c.stT r.n:=⟨_,rfl⟩
   rw[←htst] at ls KS HND;obtain⟨ti,hti⟩:∃t,t=Lib.itoa r.n:=⟨_,rfl⟩
   rw[←hti] at li KD HND;clear htst hti;have s3:(9223372036854775807<tk.length+ti.length)=False:=eq_false (by omega);have s4:(9223372036854775807<tk.length+ti.length+1)=False:=eq_false (by omega);have s5:(9223372036854775807<tk.length+ti.length+1+tst.length)=False:=eq_false (by omega);have b0:=B1.cell 0 rfl;have y1:=HB.out W1 hv1;have hD1:Below W1.heap.size W1 W1.drew:=below_drewN (Below.refl _ _) 1;have hvd:=onto hv1 hD1;have BD:=B1.kept hD1
   go_region_held3 (fun w'=>w'.cell? ⟨nb,0,none⟩=some (.int .i64 r.n)∧w'.cell? ⟨Z.yb,0,none⟩=some (.pointer (some ⟨Z.R.cb,0,none⟩))) (go_keep)
    (first
     | (go_at_call 52;(with_reducible refine(KD.out _).mono ?_);rintro e w3⟨rfl,hb3⟩;have hv3:=onto hvd hb3;have B3:=Blok.kept BD hb3;have b0:=Blok.cell B3 0 rfl;have y1:=HB.out w3 hv3;have k3:=KS.out w3 hv3)
     | (go_at_call 53;(with_reducible refine k3.mono ?_);rintro e w4⟨rfl,hb4⟩;have hv4:=onto hv3 hb4;have B4:=Blok.kept B3 hb4;have b0:=Blok.cell B4 0 rfl;have y1:=HB.out w4 hv4))
   have s6:(9223372036854775807<tk.length+ti.length+1+tst.length+1)=False:=eq_false (by omega);have hv4':=hv4;have HV4:=Lib.hid hv4
   by_cases hst:r.x.st=2
   ·have hsb:(r.x.st==2)=true:=beq_iff_eq.2 hst
    rw[if_pos hst] at HND hnd lv0;obtain⟨m1,m2,m3,m4,m5⟩:=hnd;dsimp only at m2 m3 m4 m5 lv0 HND;rw[if_pos rfl] at HND;have lh:=histT_len m4;obtain⟨hl,hhl⟩:∃hl,hl=r.x.h.length:=⟨_,rfl⟩
    have KV:=Lib.hid (fun(W:World)=>rViewOf_any r.n r.x r.la hl r.lc W m2 m3);have KH:=Lib.hid (fun(W:World) (hb:Below W1.heap.size W1 W)=>historyText_any r.la hl r.lc r.x.h W hhl.symm (HRW1.out.below hb) (by omega) m4);rw[←hhl] at B4;have x0:=B4.cell 0 rfl;have x1:=B4.cell 1 rfl;have x2:=B4.cell 2 rfl;have x3:=B4.cell 3 rfl;have x4:=B4.cell 4 rfl;have x5:=B4.cell 5 rfl;have x6:=B4.cell 6 rfl;generalize histT r.x.h=th at *;generalize r.x.viewT=tv at *;have s7:(9223372036854775807<tk.length+ti.length+1+tst.length+1+tv.length)=False:=eq_false (by omega);have s8:(9223372036854775807<tk.length+ti.length+1+tst.length+1+tv.length+1)=False:=eq_false (by omega);have s9:(9223372036854775807<tk.length+ti.length+1+tst.length+1+tv.length+1+th.length)=False:=eq_false (by omega);have s10:(9223372036854775807<tk.length+ti.length+1+tst.length+1+tv.length+1+th.length+1)=False:=eq_false (by omega);have hx4:Below W1.heap.size W1 w4:=onto (onto hD1 hb3) hb4;have HX4:=Lib.hid hx4;have hD4:Below w4.heap.size w4 w4.drew:=below_drewN (Below.refl _ _) 1;have BD4:=B4.kept hD4;have hx5:=onto hx4 hD4;have hv5:=onto hv4 hD4;clear m1 m2 m3 m4 m5 hst hhl y1;go_upto_region 8 with(fail)
    go_region_held3 (fun w'=>w'.cell? ⟨nb,0,none⟩=some (.int .i64 r.n)∧w'.cell? ⟨nb,1,none⟩=some (.int .i64 r.x.st)∧w'.cell? ⟨nb,2,none⟩=some (.int .i64 r.x.val)∧w'.cell? ⟨nb,3,none⟩=some (.int .i64 r.x.m)∧w'.cell? ⟨nb,4,none⟩=some (.int .i64 r.x.d)∧w'.cell? ⟨nb,5,none⟩=some (.int .i64 r.x.s)∧w'.cell? ⟨nb,6,none⟩=some (.slice r.la hl r.lc)) (go_keep)
     (first
      | (go_at_call 54;(with_reducible refine(KV.out _).mono ?_);rintro e w6⟨rfl,hb6⟩;have hv6:=onto hv5 hb6;have hx6:=onto hx5 hb6;have B6:=Blok.kept BD4 hb6;have x0:=Blok.cell B6 0 rfl;have x1:=Blok.cell B6 1 rfl;have x2:=Blok.cell B6 2 rfl;have x3:=Blok.cell B6 3 rfl;have x4:=Blok.cell B6 4 rfl;have x5:=Blok.cell B6 5 rfl;have x6:=Blok.cell B6 6 rfl;have k6:=KH.out w6 hx6)
      | (go_at_call 55;(with_reducible refine k6.mono ?_);rintro e w7⟨rfl,hb7⟩;have hv7:=onto hv6 hb7;have B7:=Blok.kept B6 hb7;have x0:=Blok.cell B7 0 rfl;have x1:=Blok.cell B7 1 rfl;have x2:=Blok.cell B7 2 rfl;have x3:=Blok.cell B7 3 rfl;have x4:=Blok.cell B7 4 rfl;have x5:=Blok.cell B7 5 rfl;have x6:=Blok.cell B7 6 rfl))
    have HV7:=Lib.hid hv7;go_wp2;go_roundw
    case rel=>exact⟨k+1,by omega,by go_num,congrArg Value.string (by rw[HNX.out,HND.out];apply ByteArray.ext;apply Array.ext';simp),HV7.out⟩
    case measure=>simp[intOf];omega
   ·have hsb:(r.x.st==2)=false:=beq_eq_false_iff_ne.2 hst
    rw[if_neg hst] at HND;rw[if_neg (by decide)] at HND;have x1:=B4.cell 1 rfl;clear hst y1;go_wp2;go_roundw
    case rel=>exact⟨k+1,by omega,by go_num,congrArg Value.string (by rw[HNX.out,HND.out];apply ByteArray.ext;apply Array.ext';simp),HV4.out⟩
    case measure=>simp[intOf];omega
  ·obtain rfl:k=nn:=by omega
   rw[←HTY.out];have HBB:=Lib.hid hb;clear hb hr;go_wp2;go_ret;exact⟨rfl,HBB.out⟩
theorem RYardAt.typed{S:Nat→Prop}{w w':World}{base:Nat}{Z:RYL}{y:YP}(h:RYardAt w base Z y)(hf:Fr S w w')(hs:∀k,k<w.heap.size→S k→∃cur fz t,w.heap[k]?=some (.cells cur t fz)∧(t≠3∧t≠146∧t≠94∧t≠99)∧t≠44∧t≠31):RYardAt w' base Z y:=by
 have no:∀k t cs,Blok w k t cs→t=44∨t=31→¬S k:=fun k t cs hk ht hS=>by
  obtain⟨cur',fz,t',h1,_,n1,n2⟩:=hs k hk.lt hS;rw[Blok,h1] at hk;injection hk with hk;injection hk with _ e;subst e;exact ht.elim n1 n2
 exact⟨(hf.block _ h.blk.lt (no _ _ _ h.blk (Or.inl rfl))).trans h.blk,h.ref.typed hf (fun k hk hS=>by
  obtain⟨cur,fz,t,h1,h2,_⟩:=hs k hk hS
  exact⟨cur,fz,t,h1,h2⟩),(hf.block _ (Blok.lt h.tape) (no _ _ _ h.tape (Or.inr rfl))).trans h.tape⟩
theorem RYardAt.yard{w w':World}{base b2:Nat}{Z:RYL}{Y:YL}{y z:YP}(h:RYardAt w base Z z)(hY:YardAt w b2 Y y)(hf:Fr (YOwn w Y) w w'):RYardAt w' base Z z:=
 h.typed hf (fun k _ hS=>by
  obtain⟨_,_,cur,fz,t,h1,h2⟩:=hY.owns hS;refine⟨cur,fz,t,h1,?_⟩
  rcases h2 with rfl|rfl|rfl<;>decide)
theorem ClusAt.rtape{w w':World}{L:CL}{c:CP}{T:Nat}{d:Dk}(h:ClusAt w L c)(ht:TapeAt w T d)(hf:Fr (fun k=>k=T) w w'):ClusAt w' L c:=by
 obtain⟨a1,a2,a3,⟨q,hq,a4⟩,a6⟩:=h
 have no:∀k cur t,w.heap[k]?=some (.cells cur t (0,0))→t≠31→¬k=T:=fun k cur t hk n1 e=>by
  subst e;rw[show w.heap[k]?=_ from ht] at hk;injection hk with hk;injection hk with _ e;exact n1 e.symm
 have nom:∀k es clock,w.heap[k]?=some (.map es clock)→¬k=T:=fun k es clock hk e=>by
  subst e;rw[show w.heap[k]?=_ from ht] at hk
  cases hk
 obtain⟨es,clock,hm⟩:=a4.map;obtain⟨es2,clock2,hm2⟩:=a3.2.2.map;refine ClusAt.kept ⟨a1,a2,a3,⟨q,hq,a4⟩,a6⟩ hf (fun k hk=>?_) (nom _ _ _ hm2) (fun k cur t hk ht=>?_)
 ·rcases hk with rfl|rfl|rfl
  ·exact no _ _ _ a1 (by decide)
  ·exact no _ _ _ a3.1 (by decide)
  ·exact nom _ _ _ hm
 ·rcases ht with rfl|rfl
  ·exact no _ _ _ hk (by decide)
  ·exact no _ _ _ hk (by decide)
theorem YardAt.rtape{w w':World}{base:Nat}{Y:YL}{y:YP}{T:Nat}{d:Dk}(h:YardAt w base Y y)(ht:TapeAt w T d)(hf:Fr (fun k=>k=T) w w'):YardAt w' base Y y:=
 h.kept hf (fun k hk e=>by
  subst e;obtain⟨_,_,cur,fz,t,h1,h2⟩:=h.owns hk;rw[show w.heap[k]?=_ from ht] at h1;injection h1 with h1;injection h1 with _ e;subst e
  revert h2;decide) (h.clus.rtape ht hf)
theorem change_le(c:CP)(w:List (List UInt8)):(c.change w).2.2≤11:=by
 unfold CP.change
 split
 ·dsimp only
  unfold CP.planW
  split
  ·exact Nat.le_of_ble_eq_true rfl
  ·exact planF_le11 _
 ·split
  ·unfold CP.slotW CP.slotF
   split
   ·exact Nat.le_of_ble_eq_true rfl
   ·dsimp only;split<;>exact Nat.le_of_ble_eq_true rfl
  ·split
   ·dsimp only
    unfold CP.setW
    split
    ·unfold CP.set
     split
     ·exact Nat.le_of_ble_eq_true rfl
     ·split<;>exact Nat.le_of_ble_eq_true rfl
    ·exact Nat.le_of_ble_eq_true rfl
   ·dsimp only
    unfold CP.oneW CP.turn CP.ask
    repeat(first|exact Nat.le_of_ble_eq_true rfl|split)
theorem tell_le(c:CP)(w:List (List UInt8)):(c.tell w).2≤11:=by
 unfold CP.tell
 split
 ·exact Nat.le_of_ble_eq_true rfl
 ·split
  ·exact Nat.le_of_ble_eq_true rfl
  ·split
   ·split
    ·exact Nat.le_of_ble_eq_true rfl
    ·rename_i n _
     have:=on_le c n;unfold CP.tellN
     split
     ·dsimp only;omega
     ·split
      ·dsimp only;omega
      ·split
       ·dsimp only;omega
       ·exact Nat.le_of_ble_eq_true rfl
   ·exact Nat.le_of_ble_eq_true rfl
theorem apF_le(s:Dk)(t:List UInt8):(apF s t).2≤11:=by
 unfold apF wrF
 repeat(first|exact Nat.le_of_ble_eq_true rfl|split)
theorem doF_le(y:YP)(t:List UInt8):(y.doF t).2.2≤11:=by
 unfold YP.doF
 split
 ·exact tell_le _ _
 ·split
  ·exact change_le _ _
  ·split
   ·exact apF_le _ _
   ·exact Nat.le_of_ble_eq_true rfl
theorem RefC.both{w:World}{base:Nat}{L:CL}{R:RL}{c:CP}(h:RefC w base R c)(hC:ClusAt w L c)(hL:Fresh base L):BothAt w base L R c:=
 ⟨hC,h.ref,h.inv,hL,h.low,fun b off e ho=>by
  obtain⟨cur,hk⟩:=h.pat b off e;obtain⟨a1,_,a3,⟨q,_,a4⟩,_⟩:=hC;obtain⟨es,clock,hm⟩:=a4.map;rw[Blok] at hk
  rcases ho with rfl|rfl|rfl
  ·rw[a1] at hk;injection hk with e;injection e with _ e2;revert e2;decide
  ·rw[a3.1] at hk;injection hk with e;injection e with _ e2;revert e2;decide
  ·rw[hm] at hk;injection hk with e;cases e⟩
set_option maxRecDepth 200000 in
set_option maxHeartbeats 3200000 in
theorem yardDoes_law(ea:Nat→Addr)(a:Option Addr)(n cap:Nat)(l:List (List UInt8))(w:World)(hG:GlobC w ea)(hT:TxtEnv w)
 (hn:l.length=n) (hr:RowAt w a (encTexts l)) (hl:longT l 60=false) :
 Calls Tryz.prog 3 #[.slice a n cap] w fun e w'=>e=.returned (.bool true)∧Below w.heap.size w w':=by
 obtain⟨hl60,h150⟩:=longT_not hl;have K0:=Lib.hid (yarded_any ea w hG hT);have KL:=Lib.hid (fun(W:World) (hb:Below w.heap.size w W)=>longLines_any a n cap l 60 W hn (hr.below hb) (by omega));rw[hl] at KL;have KN:=Lib.hid (fun(W:World) (hb:Below w.heap.size w W)=>yNew_any ea W ((hG.below hb).glob.sub (by simp)));have HE:=Lib.hid (fun(W:World) (hb:Below w.heap.size w W)=>EnvY.of hG hT hb (Nat.le_refl _));have HEB:=Lib.hid (fun(W:World) (hb:Below w.heap.size w W)=>EnvB.of hG hT hb (Nat.le_refl _));have KT:=Lib.hid (fun(W:World) (Y:YL) (y:YP) (hY:YardAt W w.heap.size Y y)=>yTape_any w.heap.size Y y W hY);have KX:=Lib.hid (fun(W:World) (Y:YL) (y:YP) (hb:Below w.heap.size w W) (hY:YardAt W w.heap.size Y y)=>yText_any ea w.heap.size Y y W (HE.out W hb) hY);have KD:=Lib.hid (fun(W:World) (Y:YL) (y:YP) (t:List UInt8) (hb:Below w.heap.size w W) (hY:YardAt W w.heap.size Y y) (ht:t.length≤150)=>yDo_any ea w.heap.size Y y t W (HE.out W hb) hY (by omega));have KB:=Lib.hid (fun(W:World) (D:Nat) (s:Dk) (hD:DiskAt W w.heap.size D s)=>diskBytes_any w.heap.size D s W hD);have KC:=Lib.hid (fun(W:World) (Y:YL) (y:YP) (hY:YardAt W w.heap.size Y y)=>yCluster_any w.heap.size Y y W hY);have KRD:=Lib.hid (fun(W:World) (Z:RYL) (y:YP) (t:List UInt8) (hY:RYardAt W w.heap.size Z y) (ht:t.length≤150) (k:Nat) (dn:List (List UInt8)) (hI:InvY k y dn) (hk:k≤60)=>rDo_any w.heap.size Z y t W hY (by omega) (by have:=hI.size;omega) (by have:=hI.cut;omega));have KCD:=Lib.hid (fun(W:World) (c:Nat) (hc:c≤11) (hb:Below w.heap.size w W)=>coded3_yes ea (errV ea c) c ((c:Nat):Int) W (hG.below hb) (ErrIs.bare ea W c) hc rfl);have HR:=Lib.hid hr;have HN:=Lib.hid hn;have H150:=Lib.hid h150;rw[hn] at hl60;clear hG hT hr hn hl h150;go_enter Tryz.func3,Tryz.ntmps3;go_wp2_with fail;refine K0.out.mono ?_;rintro e w1⟨rfl,hb1⟩;have K1:=Lib.hid (KL.out w1 hb1);go_wp2_with fail;refine K1.out.mono ?_;rintro e w2⟨rfl,rfl⟩;have K2:=Lib.hid (KN.out w1 hb1);clear K0 K1 KL;go_wp2_with fail;refine K2.out.mono ?_;rintro e w2⟨Y,rfl,hY,hbB⟩;have hb2:=hb1.trans (hbB.mono hb1.size);have hY:=hY.weak hb1.size;have hal:Below w2.heap.size w2 (w2.alloc (.cells #[.string ⟨#[]⟩,.bool false,.int .i64 (-1)] 31)):=(Below.refl _ _).alloc (Nat.le_refl _) _;have hT3:TapeAt (w2.alloc (.cells #[.string ⟨#[]⟩,.bool false,.int .i64 (-1)] 31)) w2.heap.size ⟨[],false,-1⟩:=Blok.new w2 _ _;have KRN:=Lib.hid (rNewYard_any _ _ _ hT3);have HY3:=Lib.hid (hY.below hal);have HB3:=Lib.hid (hb2.trans (hal.mono hb2.size));clear K2 KN hY hbB hb1 hT3 hal;go_wp2_with fail;refine KRN.out.mono ?_;rintro e w4⟨Z,hZT,rfl,hZ,_,hb4⟩;have HLT0:Hid (w.heap.size≤Z.T):=by unfold Hid;rw[hZT];exact hb2.size
 have HY4:=Lib.hid (HY3.out.below hb4);have HZ4:=Lib.hid (hZ.weak HB3.out.size);have HB4:=Lib.hid (onto HB3.out hb4);have inv0:Hid (∃dn,InvY 0 YP.new dn):=⟨[],invY_cut (-1) (by omega)⟩;clear KRN hZ hb4 HY3 HB3 hb2 hZT;obtain⟨yb,L,D⟩:=Y;dsimp only;go_wp2;go_loopw [5,6] (fun m i wr=>∃(k:Nat) (L:CL) (Z:RYL) (y:YP),k≤n∧i=.int .i64 k∧m=.pointer (some ⟨Z.yb,0,none⟩)∧Hid (∃dn,InvY k y dn)∧Hid (YardAt wr w.heap.size ⟨yb,L,D⟩ y)∧Hid (RYardAt wr w.heap.size Z y)∧Hid (w.heap.size≤Z.T)∧Hid (Below w.heap.size w wr)) (fun _ i _=>n-(intOf i).toNat)
 case atStart=>exact⟨0,L,Z,YP.new,Nat.zero_le _,rfl,rfl,inv0,HY4,HZ4,HLT0,HB4⟩
 case round=>
  clear HY4 HZ4 HB4 inv0 HLT0;obtain⟨k,L,Z,y,hk,rfl,rfl,hI,hY,hZ,hlT,hb⟩:=hrel
  by_cases hlt:k<n
  ·have hkl:k<l.length:=by rw[HN.out];exact hlt
   obtain⟨lb,lo,hae,hlb,ct⟩:=text_cell HR.out k hkl;have ht:=H150.out _ (List.getElem_mem hkl);have hi0:(0:Int)≤(k:Int):=by omega
   have hi1:(k:Int)<(n:Int):=by omega
   have HA:=Lib.hid hae;generalize l[k]=line at *;have c0:=(hb.out.cell (p:=⟨lb,lo+k,none⟩) hlb).trans ct;have HCT:=Lib.hid (fun(W:World) (h:Below w.heap.size w W)=>(h.cell (p:=⟨lb,lo+k,none⟩) hlb).trans ct);have K1:=Lib.hid (KD.out wr _ _ line hb.out hY.out ht)
   have HST:Hid (∃dn,InvY (k+1) (y.doF line).1 dn):=by
    obtain⟨dn,h⟩:=hI.out;exact⟨_,h.step (by omega) ht⟩
   have hle:=doF_le y line;subst hae;clear ct;unfold DoPost at K1;go_wp2_with fail;refine K1.out.mono ?_;rintro e w5⟨Y',rfl,hY5,hS5⟩;have hv5:=hb.out.trans (hS5.below hY.out);have hZ5:=hZ.out.yard hY.out hS5.fr
   have K2:Hid (Calls Tryz.prog 11 #[.pointer (some ⟨Z.yb,0,none⟩),.string ⟨line.toArray⟩] w5 (RDo w.heap.size Z (y.doF line) w5)):=by
    obtain⟨dn,h⟩:=hI.out;exact KRD.out w5 Z y line hZ5 ht k dn h (by omega)
   have c5:=HCT.out w5 hv5;obtain⟨yb',L',D'⟩:=Y';obtain⟨e1,e2⟩:yb'=yb∧D'=D:=⟨hS5.yb,hS5.D⟩;subst e1 e2;have HY5:=Lib.hid hY5;have HV5:=Lib.hid hv5;have HZ5:=Lib.hid hZ5.tape;clear K1 c0 hY5 hS5 hv5 hZ5 hY hZ;unfold RDo at K2;go_wp2_with fail;refine K2.out.mono ?_;rintro e w6⟨Z',hT6,rfl,hZ6,hF6⟩;have HLT6:Hid (w.heap.size≤Z'.T):=by unfold Hid;rw[hT6];exact hlT.out
   have hY6:=HY5.out.rtape HZ5.out hF6;have hv6:Below w.heap.size w w6:=HV5.out.trans (hF6.below HV5.out.size (fun j e=>by rw[e];exact hlT.out));have K3:=Lib.hid (KCD.out w6 _ hle hv6);have HY6:=Lib.hid hY6;have HZ6:=Lib.hid hZ6;have HV6:=Lib.hid hv6;clear K2 c5 hY6 hZ6 hF6 hv6 hle hT6;generalize y.doF line=r at *;obtain⟨r1,r2,r3⟩:=r;dsimp only at *;go_wp2_with fail;refine K3.out.mono ?_;rintro e w7⟨rfl,hb7⟩;have HY7:=Lib.hid (HY6.out.below hb7);have HZ7:=Lib.hid (HZ6.out.below hb7);have HV7:=Lib.hid (onto HV6.out hb7);clear hb7;go_wp2;go_roundw
   case rel=>exact⟨k+1,L',Z',r1,by omega,by go_num,rfl,HST,HY7,HZ7,HLT6,HV7⟩
   case measure=>simp[intOf];omega
  ·obtain rfl:k=n:=by omega
   have hD:Below wr.heap.size wr wr.drew:=below_drewN (Below.refl _ _) 1
   have HCZ:=Lib.hid (fun(W:World) (h:Below wr.heap.size wr W)=>show W.cell? ⟨Z.yb,0,none⟩=some (.pointer (some ⟨Z.R.cb,0,none⟩))∧W.cell? ⟨Z.yb,1,none⟩=some (.pointer (some ⟨Z.T,0,none⟩))∧W.cell? ⟨Z.T,0,none⟩=some (.string ⟨y.d.b.toArray⟩) from
    ⟨((hZ.out.below h).blk).cell 0 rfl,((hZ.out.below h).blk).cell 1 rfl,Blok.cell (hZ.out.below h).tape 0 rfl⟩)
   obtain⟨y0,y1,y2⟩:=HCZ.out wr (Below.refl _ _);have k1:=Lib.hid (KX.out wr.drew _ _ (hb.out.trans (hD.mono hb.out.size)) (hY.out.below hD));have KZ:=Lib.hid (fun(W:World) (h:Below wr.heap.size wr W)=>rText_any w.heap.size Z y W (hZ.out.below h));have KTT:=Lib.hid (fun(W:World) (h:Below wr.heap.size wr W)=>KT.out W _ _ (hY.out.below h));have KBB:=Lib.hid (fun(W:World) (h:Below wr.heap.size wr W)=>KB.out W _ _ (hY.out.below h).disk);have KCC:=Lib.hid (fun(W:World) (h:Below wr.heap.size wr W)=>KC.out W _ _ (hY.out.below h));have KSS:=Lib.hid (fun(W0 W:World) (L':CL) (h0:Below wr.heap.size wr W0) (h:Below W0.heap.size W0 W) (hC:ClusAt W L' y.c) (hL:Fresh W0.heap.size L')=>sameClus_any ea w.heap.size L' Z.R y.c W (HEB.out W (hb.out.trans ((onto h0 h).mono hb.out.size))) (RefC.both ((hZ.out.below (onto h0 h)).ref) hC (hL.mono (Nat.le_trans hb.out.size h0.size))));have HBW:=Lib.hid hb.out;clear hY hZ hI hb KX KT KB KC KD KRD KCD;dsimp only at KTT KBB;go_upto_region 16 with(fail)
   go_region_held3 (fun w'=>w'.cell? ⟨Z.yb,0,none⟩=some (.pointer (some ⟨Z.R.cb,0,none⟩))∧w'.cell? ⟨Z.yb,1,none⟩=some (.pointer (some ⟨Z.T,0,none⟩))∧w'.cell? ⟨Z.T,0,none⟩=some (.string ⟨y.d.b.toArray⟩)) (go_keep)
    (first
     | (go_at_call 13;(with_reducible refine k1.out.mono ?_);rintro e w3⟨rfl,hb3⟩;have hv3:=onto hD hb3;have k2:=KZ.out w3 hv3;have q3:=HCZ.out w3 hv3;obtain⟨y0,y1,y2⟩:=q3)
     | (go_at_call 14;(with_reducible refine k2.mono ?_);rintro e w4⟨rfl,hb4⟩;have hv4:=onto hv3 hb4;have k3:=KTT.out w4 hv4;have k4:=KBB.out w4 hv4;have k5:=KCC.out w4 hv4;have q4:=HCZ.out w4 hv4;obtain⟨y0,y1,y2⟩:=q4)
     | (go_at_call 15;(with_reducible refine k3.mono ?_);rintro e _⟨rfl,rfl⟩)
     | (go_at_call 16;(with_reducible refine k4.mono ?_);rintro e _⟨rfl,rfl⟩)
     | (go_at_call 18;(with_reducible refine k5.mono ?_);rintro e w5⟨L',rfl,hC5,hL5,hb5⟩;have hv5:=onto hv4 hb5;have k6:=KSS.out w4 w5 L' hv4 hb5 hC5 hL5;have q5:=HCZ.out w5 hv5;obtain⟨y0,y1,y2⟩:=q5)
     | (go_at_call 17;(with_reducible refine k6.mono ?_);rintro e w6⟨rfl,hb6⟩;have hv6:=onto hv5 hb6;have q6:=HCZ.out w6 hv6;obtain⟨y0,y1,y2⟩:=q6))
   go_wp2;go_ret;exact⟨rfl,HBW.out.trans (hv6.mono HBW.out.size)⟩
set_option maxRecDepth 100000 in
theorem walk_YardDoes(ea:Nat→Addr)(a:Option Addr)(n cap:Nat)(l:List (List UInt8))(w:World)(hG:GlobC w ea)(hT:TxtEnv w)
 (hn:l.length=n) (hr:RowAt w a (encTexts l)) (_hcap:n≤cap) (hm:n≤4611686018427387904) :
 Calls Tryz.prog 3 #[.slice a n cap] w fun e w'=>e=.returned (.bool true)∧Below w.heap.size w w':=by
 cases hl:longT l 60
 ·exact yardDoes_law ea a n cap l w hG hT hn hr hl
 ·have K0:=Lib.hid (yarded_any ea w hG hT)
  have KL:=Lib.hid (fun(W:World) (hb:Below w.heap.size w W)=>longLines_any a n cap l 60 W hn (hr.below hb) hm);rw[hl] at KL;clear hG hT hn hr hl;go_enter Tryz.func3,Tryz.ntmps3;go_wp2_with fail;refine K0.out.mono ?_;rintro e w1⟨rfl,hb1⟩;have K1:=Lib.hid (KL.out w1 hb1);go_wp2_with fail;refine K1.out.mono ?_;rintro e w2⟨rfl,rfl⟩;go_wp2;go_ret;exact⟨rfl,hb1⟩
theorem linesF_le:∀(l:List (List UInt8)) (c:CP) (i:Nat),(c.linesF i l).2.1≤11
 | [],_,_=>Nat.zero_le _
 | x::r,c,i=>by
  unfold CP.linesF
  split
  ·exact linesF_le r _ _
  ·unfold CP.lineF
   dsimp only
   split
   ·exact Nat.le_of_ble_eq_true rfl
   ·exact change_le _ _
theorem recNil_any(ea:Nat→Addr)(w:World)(hg:Glob w ea [3]) :
 Calls Tryz.prog 62 #[.pointer none] w fun e w'=>e=.returned (.tuple #[.slice none 0 0,errV ea 3])∧Below w.heap.size w w':=by
 have g3:=hg.cell 3 (by simp);simp only[gOf] at g3;go_enter Tryz.func62,Tryz.ntmps62;go_wp2;go_quiet (fail);go_wp2;go_ret2;exact⟨rfl,below_drewN (Below.refl _ _) _⟩
theorem openNil_any(ea:Nat→Addr)(w:World)(hg:Glob w ea [3]) :
 Calls Tryz.prog 21 #[.pointer none] w fun e w'=>e=.returned (.tuple #[.pointer none,errV ea 3])∧Below w.heap.size w w':=by
 have K:=Lib.hid (recNil_any ea w hg);rw[errV_pos ea (by decide)] at K ⊢;clear hg;go_enter Tryz.func21,Tryz.ntmps21;go_wp2_with fail;refine K.out.mono ?_;rintro e w1⟨rfl,hb1⟩;go_wp2;go_ret2;exact⟨rfl,hb1⟩
theorem recB_le150{s:List UInt8}(h:s.length≤150):(recB s).length≤200:=by
 have:=recB_le s (by omega);omega
set_option maxRecDepth 200000 in
set_option maxHeartbeats 3200000 in
theorem yardOpens_law(ea:Nat→Addr)(a:Option Addr)(n cap:Nat)(l:List (List UInt8))(more:List UInt8)(w:World)(hG:GlobC w ea)(hT:TxtEnv w)
 (hn:l.length=n) (hr:RowAt w a (encTexts l)) (hl:longT l 50=false) (hm:more.length≤100) :
 Calls Tryz.prog 4 #[.slice a n cap,.string ⟨more.toArray⟩] w fun e w'=>e=.returned (.bool true)∧Below w.heap.size w w':=by
 obtain⟨hl50,h150⟩:=longT_not hl;have K0:=Lib.hid (yarded_any ea w hG hT);have KL:=Lib.hid (fun(W:World) (hb:Below w.heap.size w W)=>longLines_any a n cap l 50 W hn (hr.below hb) (by omega));rw[hl] at KL;have KR:=Lib.hid (fun(s:List UInt8) (W:World) (hs:s.length≤150)=>refRecord_any s W (by omega));have hfl:=flat_le150 h150;have HG:=Lib.hid (fun(W:World) (hb:Below w.heap.size w W)=>hG.below hb);have HE:=Lib.hid (fun(W0 W:World) (h0:Below w.heap.size w W0) (hb:Below W0.heap.size W0 W)=>EnvY.of (base:=W0.heap.size) hG hT (h0.trans (hb.mono h0.size)) h0.size);have HR:=Lib.hid hr;have HN:=Lib.hid hn;have H150:=Lib.hid h150;have hmd:decide ((100:Int)<(more.length:Int))=false:=decide_eq_false (by omega);rw[hn] at hl50 hfl;obtain⟨lp,hP⟩:=parse_exists (l.flatMap recB++more).length (l.flatMap recB++more) (Nat.le_refl _);have hbl:(l.flatMap recB++more).length≤10100:=by rw[List.length_append];omega
 have hlp:lp.length≤10100:=by
  obtain⟨_,r,h,_⟩:=hP;have h1:=flat_len lp;have h2:(lp.flatMap recB).length≤(l.flatMap recB++more).length:=by rw[h];simp
  omega
 have HP:=Lib.hid hP;have HTK:=Lib.hid (fun k (hk:k<l.length)=>show(l.take (k+1)).flatMap recB=(l.take k).flatMap recB++recB l[k] by rw[List.take_succ_eq_append_getElem hk,List.flatMap_append];simp)
 have HTL:=Lib.hid (fun k (hk:k≤n)=>show((l.take k).flatMap recB).length≤200*k by
  have h1:=flat_le150 (l:=l.take k) (fun s hs=>h150 s (List.mem_of_mem_take hs));rw[List.length_take] at h1;have h2:200*min k l.length≤200*k:=Nat.mul_le_mul_left _ (Nat.min_le_left _ _)
  omega)
 clear hG hT hr hl h150 hP hn;go_enter Tryz.func4,Tryz.ntmps4;go_wp2_with fail;refine K0.out.mono ?_;rintro e w1⟨rfl,hb1⟩;have K1:=Lib.hid (KL.out w1 hb1);go_wp2_with fail;refine K1.out.mono ?_;rintro e _⟨rfl,rfl⟩;have HB1:=Lib.hid hb1;clear K0 K1 KL hb1;go_wp2;go_loopw [6,7] (fun s i wr=>∃k:Nat,k≤n∧i=.int .i64 k∧s=.string ⟨((l.take k).flatMap recB).toArray⟩∧Hid (Below w.heap.size w wr)) (fun _ i _=>n-(intOf i).toNat)
 case atStart=>exact⟨0,Nat.zero_le _,rfl,rfl,HB1⟩
 case round=>
  clear HB1;obtain⟨k,hk,rfl,rfl,hb⟩:=hrel
  by_cases hlt:k<n
  ·have hkl:k<l.length:=by rw[HN.out];exact hlt
   obtain⟨lb,lo,rfl,hlb,ct⟩:=text_cell (HR.out.below hb.out) k hkl;have ht:=H150.out _ (List.getElem_mem hkl);have hi0:(0:Int)≤(k:Int):=by omega
   have hi1:(k:Int)<(n:Int):=by omega
   have hk2:=HTL.out k (by omega);have HX:=Lib.hid (HTK.out k hkl);generalize l[k]=line at *;have K1:=Lib.hid (KR.out line wr ht);have hrl:=recB_le150 ht;obtain⟨bk,hbk⟩:∃bk,bk=(l.take k).flatMap recB:=⟨_,rfl⟩
   rw[←hbk] at hk2 HX ⊢;generalize recB line=rl at *;have s1:(9223372036854775807<bk.length+rl.length)=False:=eq_false (by omega);clear hbk;go_wp2_with fail;refine K1.out.mono ?_;rintro e w5⟨rfl,hb5⟩;have HB5:=Lib.hid (onto hb.out hb5);clear hb5;go_wp2;go_roundw
   case rel=>exact⟨k+1,by omega,by go_num,congrArg Value.string (by rw[HX.out];apply ByteArray.ext;apply Array.ext';simp),HB5⟩
   case measure=>simp[intOf];omega
  ·obtain rfl:k=n:=by omega
   rw[List.take_of_length_le (by rw[HN.out];omega)];generalize l.flatMap recB=b at *;have hbl2:b.length+more.length≤10100:=by rw[←List.length_append];exact hbl
   have s1:(9223372036854775807<b.length+more.length)=False:=eq_false (by omega);have KN:=Lib.hid (newDisk_any (b++more) wr (by omega));have HBW:=Lib.hid hb.out;clear hb HTK HTL H150 HR KR;go_wp2_with fail;rw[ba_append];refine KN.out.mono ?_;rintro e w2⟨D,rfl,hD2,hb2⟩;have HB2:=Lib.hid hb2;have hv2:=onto HBW.out hb2;have KO:=Lib.hid (openNil_any ea w2 ((HG.out w2 hv2).glob.sub (by simp)));have HD2:=Lib.hid hD2;clear KN hb2 hv2 hD2;go_wp2_with fail;refine KO.out.mono ?_;rintro e w3⟨rfl,hb3⟩;have HB3:=Lib.hid (onto HB2.out hb3);have HD3:=Lib.hid (HD2.out.below hb3);have KC:=Lib.hid (coded3_yes ea (errV ea 3) 3 3 w3 (HG.out w3 (onto HBW.out HB3.out)) (ErrIs.bare ea w3 3) (by omega) rfl);clear KO hb3 HD2 HB2;go_wp2_with fail;refine KC.out.mono ?_;rintro e w4⟨rfl,hb4⟩;have HB4:=Lib.hid (onto HB3.out hb4);have hD4:=HD3.out.below hb4;have hE4:=HE.out wr w4 HBW.out HB4.out;have KY:=Lib.hid (yOpen_any ea wr.heap.size D _ lp w4 hE4 HB4.out.size hD4 HP.out (by omega));have HOW:=Lib.hid (fun k (hk:DOwn w4 D k)=>(hD4.owns hk).1);clear KC hb4 HD3 hD4 hE4 HB3;unfold OpenPost at KY;go_wp2_with fail;refine KY.out.mono ?_;rintro e w5 hpost
   have hF5:Fr (DOwn w4 D) w4 w5:=by
    rcases hpost with⟨_,Y,_,_,_,h,_⟩|⟨_,v,_,_,h⟩
    ·exact h
    ·exact h
   have HB5:=Lib.hid (HB4.out.trans (hF5.below HB4.out.size HOW.out));obtain⟨W5,hW5⟩:∃W,W=w5.alloc (.cells #[.string ⟨(b++more).toArray⟩,.bool false,.int .i64 (-1)] 31):=⟨_,rfl⟩
   have hal:Below w5.heap.size w5 W5:=by rw[hW5];exact(Below.refl _ _).alloc (Nat.le_refl _) _
   have hT5:TapeAt W5 w5.heap.size ⟨b++more,false,-1⟩:=by rw[hW5];exact Blok.new w5 _ _
   have KRO:=Lib.hid (rOpen_any w.heap.size w5.heap.size ⟨b++more,false,-1⟩ lp W5 (Nat.le_trans (onto HBW.out HB5.out).size hal.size) hT5 HP.out (by show(b++more).length≤100000;omega) (by omega));have HW5:=Lib.hid hW5.symm;have HAL:=Lib.hid hal;clear hF5 hW5 hal hT5 KY HOW;unfold ROpen at KRO
   rcases hpost with⟨hz,⟨yb,L,D'⟩,hYD,rfl,hY5,_,_,_,_⟩|⟨hz,v,rfl,hE5,_⟩
   ·dsimp only at hYD hY5 ⊢
    subst hYD;have HY5:=Lib.hid hY5;have HZ:=Lib.hid hz;clear hY5 hz;go_wp2_with fail;rw[ba_append,HW5.out];refine KRO.out.mono ?_;rintro e w6 (⟨_,Z,hZT,rfl,hZ6,hF6⟩|⟨hz2,_,_⟩);rotate_left
    ·exact absurd HZ.out hz2
    have hb6:Below w5.heap.size w5 w6:=HAL.out.trans (hF6.below HAL.out.size (fun j e=>by rw[e];exact Nat.le_refl _));obtain⟨W6,hW6⟩:∃W,W=w6.alloc (.cells #[.int .i64 0,.int .i64 (-1)] 55):=⟨_,rfl⟩
    have hal6:Below w6.heap.size w6 W6:=by rw[hW6];exact(Below.refl _ _).alloc (Nat.le_refl _) _
    have f0:W6.cell? ⟨w6.heap.size,0,none⟩=some (.int .i64 0):=by rw[hW6];simp
    have hY7:=(HY5.out.below hb6).below hal6;have hZ7:=hZ6.below hal6;have hv7:=(onto HBW.out HB5.out).trans (((hb6.mono (Nat.le_refl _)).trans (hal6.mono hb6.size)).mono (onto HBW.out HB5.out).size);have HY7:=Lib.hid hY7;have HZ7:=Lib.hid hZ7;have HV7:=Lib.hid hv7;have HE7:=Lib.hid (HE.out wr W6 HBW.out (HB5.out.trans ((hb6.trans (hal6.mono hb6.size)).mono HB5.out.size)));have HW6:=Lib.hid hW6.symm;clear hF6 hZ6 hZT hb6 hal6 hW6 hY7 hZ7 hv7 KRO HAL HW5;go_upto_region 17 with(fail);rw[HW6.out];have hD:Below W6.heap.size W6 W6.drew:=below_drewN (Below.refl _ _) 1
    have HCZ:=Lib.hid (fun(W:World) (h:Below W6.heap.size W6 W)=>show W.cell? ⟨Z.yb,1,none⟩=some (.pointer (some ⟨Z.T,0,none⟩))∧W.cell? ⟨Z.T,0,none⟩=some (.string ⟨((b++more).take (lp.flatMap recB).length).toArray⟩) from
     ⟨((HZ7.out.below h).blk).cell 1 rfl,Blok.cell (HZ7.out.below h).tape 0 rfl⟩)
    obtain⟨y1,y2⟩:=HCZ.out W6 (Below.refl _ _);have k1:=Lib.hid (yText_any ea wr.heap.size ⟨yb,L,D'⟩ _ W6.drew (HE7.out.later (hD.mono HY7.out.size)) (HY7.out.below hD));have KZ:=Lib.hid (fun(W:World) (h:Below W6.heap.size W6 W)=>rText_any w.heap.size Z _ W (HZ7.out.below h));have KTT:=Lib.hid (fun(W:World) (h:Below W6.heap.size W6 W)=>yTape_any wr.heap.size ⟨yb,L,D'⟩ _ W (HY7.out.below h));have KBB:=Lib.hid (fun(W:World) (h:Below W6.heap.size W6 W)=>diskBytes_any wr.heap.size D' _ W (HY7.out.below h).disk);dsimp only at k1 KZ KBB KTT;clear HY7 HZ7 HE7;generalize (freshC.linesF 0 lp).1=c at *;generalize (b++more).take (lp.flatMap recB).length=tb at *;go_upto_region 19 with(fail)
    go_region_held3 (fun w'=>w'.cell? ⟨Z.yb,1,none⟩=some (.pointer (some ⟨Z.T,0,none⟩))∧w'.cell? ⟨Z.T,0,none⟩=some (.string ⟨tb.toArray⟩)) (go_keep)
     (first
      | (go_at_call 13;(with_reducible refine k1.out.mono ?_);rintro e w8⟨rfl,hb8⟩;have hv8:=onto hD hb8;have k2:=KZ.out w8 hv8;have q3:=HCZ.out w8 hv8;obtain⟨y1,y2⟩:=q3)
      | (go_at_call 14;(with_reducible refine k2.mono ?_);rintro e w9⟨rfl,hb9⟩;have hv9:=onto hv8 hb9;have k3:=KTT.out w9 hv9;have k4:=KBB.out w9 hv9;have q4:=HCZ.out w9 hv9;obtain⟨y1,y2⟩:=q4)
      | (go_at_call 15;(with_reducible refine k3.mono ?_);rintro e _⟨rfl,rfl⟩)
      | (go_at_call 16;(with_reducible refine k4.mono ?_);rintro e _⟨rfl,rfl⟩))
    go_wp2;go_ret;exact⟨rfl,HV7.out.trans (hv9.mono HV7.out.size)⟩
   ·have HE5:=Lib.hid hE5
    have HZ:=Lib.hid hz;have hle:=linesF_le lp freshC 0;generalize freshC.linesF 0 lp=q at *;obtain⟨q1,q2,q3⟩:=q;dsimp only at *;clear hE5;have hq1:decide ((0:Int)<((q2:Nat):Int))=true:=decide_eq_true (by omega);have hq2:decide (0<q2)=true:=decide_eq_true (by omega);clear hz;go_wp2_with fail;rw[ba_append,HW5.out];refine KRO.out.mono ?_;rintro e w6 (⟨hz2,_⟩|⟨_,rfl,hF6⟩)
    ·exact absurd hz2 HZ.out
    have hb6:Below w5.heap.size w5 w6:=HAL.out.trans (hF6.below HAL.out.size (fun j e=>by rw[e];exact Nat.le_refl _));obtain⟨W6,hW6⟩:∃W,W=w6.alloc (.cells #[.int .i64 (q2:Nat),.int .i64 q3] 55):=⟨_,rfl⟩
    have hal6:Below w6.heap.size w6 W6:=by rw[hW6];exact(Below.refl _ _).alloc (Nat.le_refl _) _
    have f0:W6.cell? ⟨w6.heap.size,0,none⟩=some (.int .i64 (q2:Nat)):=by rw[hW6];simp
    have f1:W6.cell? ⟨w6.heap.size,1,none⟩=some (.int .i64 q3):=by rw[hW6];simp
    have hv7:=(onto HBW.out HB5.out).trans ((hb6.trans (hal6.mono hb6.size)).mono (onto HBW.out HB5.out).size);have KF:=Lib.hid (faulted3_any ea v q2 q3 (q2:Nat) q3 W6 (HG.out W6 hv7) ((HE5.out.below hb6).below hal6) hle);rw[decide_eq_true (show((q2:Nat):Int)=(q2:Nat)∧(q2=0∨q3=q3) from⟨rfl,Or.inr rfl⟩)] at KF;have HV7:=Lib.hid hv7;have HW6:=Lib.hid hW6.symm;clear hF6 hb6 hal6 hW6 hv7 KRO HAL HW5;go_upto_region 17 with(fail);rw[HW6.out];go_wp2_with fail;refine KF.out.mono ?_;rintro e w7⟨rfl,hb7⟩;go_wp2;go_ret;exact⟨rfl,onto HV7.out hb7⟩
set_option maxRecDepth 100000 in
theorem walk_YardOpens(ea:Nat→Addr)(a:Option Addr)(n cap:Nat)(l:List (List UInt8))(more:List UInt8)(w:World)(hG:GlobC w ea)(hT:TxtEnv w)
 (hn:l.length=n) (hr:RowAt w a (encTexts l)) (_hcap:n≤cap) (hm:n≤4611686018427387904) (_hx:more.length≤maxLen) :
 Calls Tryz.prog 4 #[.slice a n cap,.string ⟨more.toArray⟩] w fun e w'=>e=.returned (.bool true)∧Below w.heap.size w w':=by
 cases hl:longT l 50
 ·by_cases h1:more.length≤100
  ·exact yardOpens_law ea a n cap l more w hG hT hn hr hl h1
  have hmd:decide ((100:Int)<(more.length:Int))=true:=decide_eq_true (by omega);have K0:=Lib.hid (yarded_any ea w hG hT);have KL:=Lib.hid (fun(W:World) (hb:Below w.heap.size w W)=>longLines_any a n cap l 50 W hn (hr.below hb) hm);rw[hl] at KL;clear hG hT hn hr hl;go_enter Tryz.func4,Tryz.ntmps4;go_wp2_with fail;refine K0.out.mono ?_;rintro e w1⟨rfl,hb1⟩;have K1:=Lib.hid (KL.out w1 hb1);go_wp2_with fail;refine K1.out.mono ?_;rintro e w2⟨rfl,rfl⟩;go_wp2;go_ret;exact⟨rfl,hb1⟩
 ·have K0:=Lib.hid (yarded_any ea w hG hT)
  have KL:=Lib.hid (fun(W:World) (hb:Below w.heap.size w W)=>longLines_any a n cap l 50 W hn (hr.below hb) hm);rw[hl] at KL;clear hG hT hn hr hl;go_enter Tryz.func4,Tryz.ntmps4;go_wp2_with fail;refine K0.out.mono ?_;rintro e w1⟨rfl,hb1⟩;have K1:=Lib.hid (KL.out w1 hb1);go_wp2_with fail;refine K1.out.mono ?_;rintro e w2⟨rfl,rfl⟩;go_wp2;go_ret;exact⟨rfl,hb1⟩
end Go.Proofs.YtppfkokfnoeopaaGreatDoor
