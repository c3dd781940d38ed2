/- A part of a proof. -/
import Derived.Test.YtppfkokfnoeopaaGreatDoorSYDo
import Derived.Test.YtppfkokfnoeopaaGreatDoorSRefSlot
import Derived.Test.YtppfkokfnoeopaaGreatDoorSRefNew
import Derived.Test.YtppfkokfnoeopaaGreatDoorSRefLast
import Derived.Test.YtppfkokfnoeopaaGreatDoorSTapeR
set_option maxRecDepth 400000
set_option maxHeartbeats 6400000
namespace Go.Proofs.YtppfkokfnoeopaaGreatDoor
open Go.RowKit Go.Maps Go.Proofs.Tryz
theorem Sv(l:List UInt8)(w:World) :
 Calls prog 40 #[.string ⟨l.toArray⟩] w fun e w'=>e=.returned (.int .i64 (Bz l))∧w=w':=by
 by_cases q1:l=[112,108,97,110]
 ·subst q1
  go_enter func40,ntmps40;go_wp2;go_ret;exact⟨rfl,rfl⟩
 by_cases q2:l=[111,102,102]
 ·subst q2
  go_enter func40,ntmps40;go_wp2;go_ret;exact⟨rfl,rfl⟩
 by_cases q3:l=[111,110]
 ·subst q3
  go_enter func40,ntmps40;go_wp2;go_ret;exact⟨rfl,rfl⟩
 by_cases q4:l=[109,111,100,101]
 ·subst q4
  go_enter func40,ntmps40;go_wp2;go_ret;exact⟨rfl,rfl⟩
 by_cases q5:l=[115,108,111,116]
 ·subst q5
  go_enter func40,ntmps40;go_wp2;go_ret;exact⟨rfl,rfl⟩
 by_cases q6:l=[115,101,116]
 ·subst q6
  go_enter func40,ntmps40;go_wp2;go_ret;exact⟨rfl,rfl⟩
 have HW:Hid (Bz l=-1):=by unfold Hid Bz;rw[if_neg (by simp[q1,q2,q3,q4,q5]),if_neg q6]
 have g1:(l==[112,108,97,110])=false:=by simpa using q1
 have g2:(l==[111,102,102])=false:=by simpa using q2
 have g3:(l==[111,110])=false:=by simpa using q3
 have g4:(l==[109,111,100,101])=false:=by simpa using q4
 have g5:(l==[115,108,111,116])=false:=by simpa using q5
 have g6:(l==[115,101,116])=false:=by simpa using q6
 clear q1 q2 q3 q4 q5 q6;go_enter func40,ntmps40;go_wp2;go_ret;exact⟨by rw[HW.out];rfl,rfl⟩
def Xa(s:List UInt8)(c:UInt8)(w:World)(e:Ending)(w':World):Prop:=
 (∃xs ao co,Bi (Az c s)=some xs∧e=.returned (.tuple #[.slice ao xs.length co,.bool true])∧w'.ownsRow w.heap.size 3 1 (.slice ao xs.length co) xs.length (Aa xs)∧Below w.heap.size w w') ∨
 (Bi (Az c s)=none∧e=.returned (.tuple #[.slice none 0 0,.bool false])∧Below w.heap.size w w')
theorem Hw(s:List UInt8)(c:UInt8)(w:World)(hs:s.length≤100000) :
 Calls prog 95 #[.string ⟨s.toArray⟩,.int .u8 (c.toNat:Int)] w (Xa s c w):=by
 obtain⟨i0,hi,hz0,hz1,hz2⟩:=info_parts Ga;have hi':=zh hi;have hz0':=zh hz0;have hz1':=zh hz1;have hz2':=zh hz2;clear hi hz0 hz1 hz2;have KC:=zh (Fv s c w hs);have KN:=zh (fun(x:List UInt8) (W:World) (hx:x.length≤100000)=>D8 x W hx);have HLN:Hid (∀x∈Az c s,x.length≤100000):=fun x hx=>by have:=Cz c s x hx;omega
 have HLL:Hid ((Az c s).length≤100001):=by have:=Ch c s;unfold Hid;omega
 unfold Xa;go_enter func95,ntmps95;go_wp2_with fail;refine KC.out.mono ?_;rintro e w1⟨ac,nc,cc,rfl,hrc,hnc,_,hb1⟩;have HRC:=zh hrc;have HNC:=zh hnc;have HB1:=zh hb1;obtain⟨ws,hws⟩:∃ws,ws=Az c s:=⟨_,rfl⟩
 rw[←hws] at HLN HLL HRC HNC;have HWQ:=zh hws;clear hws;have hn1:nc≤100001:=by rw[←HNC.out];exact HLL.out
 clear KC hrc hnc hb1;go_wp2;go_loopw [7,8] (fun v i wr=>∃(k:Nat) (xs:List Int),k≤nc∧i=.int .i64 k∧Hid (Bi (ws.take k)=some xs)∧xs.length=k∧wr.ownsRow w1.heap.size 3 1 v xs.length (Aa xs)∧Below w1.heap.size w1 wr) (fun _ i _=>nc-(intOf i).toNat)
 case atStart=>exact⟨0,[],Nat.zero_le _,rfl,rfl,rfl,World.ownsRow_nil _ _ _ _,Below.refl _ _⟩
 case round=>
  obtain⟨k,xs,hk,rfl,hacc,hxl,hown,hb⟩:=hrel
  by_cases hlt:k<nc
  ·have hkw:k<ws.length:=by rw[HNC.out];exact hlt
   obtain⟨b,off,rfl,hbl,cw⟩:=Ms HRC.out k hkw;have cx:=(hb.cell (p:=⟨b,off+k,none⟩) hbl).trans cw;have hxm:=HLN.out _ (List.getElem_mem hkw);have HTK:=zh (List.take_succ_eq_append_getElem hkw);have HWS:Hid (ws=ws.take (k+1)++ws.drop (k+1)):=(List.take_append_drop _ _).symm;have hi0:(0:Int)≤(k:Int):=by omega
   have hi1:(k:Int)<(nc:Int):=by omega
   generalize ws[k]=x at *;have K:=zh (KN.out x wr hxm)
   cases hn:Aw x
   ·have hf:Cl x=none:=by unfold Aw at hn;simpa using hn
    have HNO:Hid (Bi ws=none):=by
     unfold Hid;rw[HWS.out];refine Hi _ ?_;rw[HTK.out,Fi,hacc.out];simp[Bv,hf]
    rw[hn] at K;have HV:=zh (Ar HB1.out hb);clear hn hf cw hown hb;go_wp2_with fail;refine K.out.mono ?_;rintro e w5⟨rfl,rfl⟩;go_wp2;go_ret2;exact Or.inr ⟨by rw[←HWQ.out];exact HNO.out,rfl,HV.out⟩
   ·have hf:Cl x=some (Ah x):=by
     unfold Aw at hn;unfold Ah
     cases h:Cl x with
     | none=>rw[h] at hn;cases hn
     | some v=>rfl
    have HAC:Hid (Bi (ws.take (k+1))=some (xs++[Ah x])):=by
     unfold Hid;rw[HTK.out,Fi,hacc.out];simp[Bv,hf]
    rw[hn] at K;generalize Ah x=y at *;have HO:=zh (hown.alloc (.cells #[.int .i64 y] 3));have HW:=zh (Ac.new_at wr [.int .i64 y] 3 _ rfl);have HV:=zh (hb.alloc hb.size (.cells #[.int .i64 y] 3));have HXL:=zh hxl;clear hn hf cw hown hb hacc;go_wp2_with fail;refine K.out.mono ?_;rintro e w5⟨rfl,rfl⟩;go_wp2_with (at_builtin;refine Ag _ rfl (.tmp 30) (.tmp 32) 72 rfl w1.heap.size 3 i0 _ 1 8 underlying72 hi'.out hz0'.out hz1'.out hz2'.out rfl (by decide) _ xs.length (Aa xs) rfl HO.out (some ⟨wr.heap.size,0,none⟩) 1 1 [.int .i64 y] rfl rfl HW.out ?_ ?_ ?_ ?_ ?_;(simp[Value.oneCell']);(unfold maxLen;omega);(omega);(exact HV.out.size);intro v1 w6 ho1 hg1 hq hm1;clear hq hm1);go_roundw
    case rel=>exact⟨k+1,xs++[y],by omega,by go_num,HAC,by rw[List.length_append,HXL.out];rfl,by rw[List.length_append];simpa[Aa] using ho1,HV.out.grown hg1 HV.out.size (fun j e=>(HO.out.lt j e).1)⟩
    case measure=>simp[intOf];omega
  ·obtain rfl:k=nc:=by omega
   obtain⟨ao,co,rfl⟩:=Aj hown
   have HAC:Hid (Bi ws=some xs):=by
    have h:=hacc.out;rw[List.take_of_length_le (by rw[HNC.out];omega)] at h;exact h
   have HO:=zh (C0 hown HB1.out.size);have HV:=zh (Ar HB1.out hb);clear hown hb hacc;go_wp2;go_ret2;exact Or.inl ⟨xs,ao,co,by rw[←HWQ.out];exact HAC.out,rfl,HO.out,HV.out⟩
end Go.Proofs.YtppfkokfnoeopaaGreatDoor
namespace Go.Proofs.YtppfkokfnoeopaaGreatDoor
open Go.RowKit Go.Proofs.Tryz
section
open Go.Lib Go.Proofs.Tryz
theorem zAc(a b:UInt8):∀l:List UInt8,a∉l→l.map (fun x=>if x=a then b else x)=l
 | [],_=>rfl
 | x::r,h=>by
  rw[List.mem_cons,not_or] at h;rw[List.map_cons,zAc a b r h.2,if_neg (Ne.symm h.1)]
theorem zBi{a:UInt8}:∀{s:List UInt8} {i:Nat},indexByte s a=i→∃r,s=s.take i++a::r∧a∉s.take i∧r=s.drop (i+1)
 | [],i,h=>by simp[indexByte] at h
 | x::t,i,h=>by
  unfold indexByte at h
  split at h
  ·rename_i hx
   obtain rfl:i=0:=by omega
   obtain rfl:x=a:=by simpa using hx
   exact⟨t,by simp⟩
  ·rename_i hx
   split at h
   ·omega
   ·rename_i ht
    have hg:=indexByte_ge t a;have hn:indexByte t a≠-1:=by simpa using ht
    obtain⟨j,rfl⟩:∃j,i=j+1:=⟨i-1,by omega⟩
    obtain⟨r,h1,h2,h3⟩:=zBi (a:=a) (s:=t) (i:=j) (by omega);refine⟨r,?_,?_,by simpa using h3⟩
    ·rw[List.take_succ_cons,List.cons_append,←h1]
    ·rw[List.take_succ_cons,List.mem_cons,not_or]
     exact⟨fun e=>hx (by simp[e]),h2⟩
theorem zBj{a:UInt8}:∀{s:List UInt8},indexByte s a=-1→a∉s
 | [],_=>by simp
 | x::t,h=>by
  unfold indexByte at h
  split at h
  ·omega
  ·rename_i hx
   split at h
   ·rename_i ht
    rw[List.mem_cons,not_or];exact⟨fun e=>hx (by simp[e]),zBj (by simpa using ht)⟩
   ·have:=indexByte_ge t a;omega
theorem Yq(a b:UInt8):∀(fuel:Nat) (s:List UInt8),s.length<fuel→replaceK [a] [b] (countFrom [a] fuel s) s=s.map (fun x=>if x=a then b else x)
 | 0,s,h=>by omega
 | fuel+1,s,h=>by
  unfold countFrom
  split
  ·rename_i hi
   rw[index_one] at hi;rw[zAc a b s (zBj (by simpa using hi))];rfl
  ·rename_i hi
   have hge:=index_ge s [a];have hne:index s [a]≠-1:=by simpa using hi
   obtain⟨i,hi⟩:∃i:Nat,index s [a]=i:=⟨(index s [a]).toNat,by omega⟩
   have hi2:=hi;rw[index_one] at hi2;obtain⟨r,h1,h2,h3⟩:=zBi hi2;rw[Nat.add_comm,replaceK_hit _ _ _ _ i hi];have e:(index s [a]).toNat=i:=by omega
   rw[e,show i+[a].length=i+1 from rfl,←h3,Yq a b fuel r (by have:=congrArg List.length h1;simp at this;omega)]
   conv=>rhs;rw[h1]
   rw[List.map_append,zAc a b _ h2,List.map_cons,if_pos rfl];simp
theorem Yr(s:List UInt8)(a b:UInt8):replaceAll s [a] [b]=s.map (fun x=>if x=a then b else x):=by
 unfold replaceAll replace
 split
 ·rename_i h
  obtain rfl:a=b:=by simpa using h
  conv=>lhs;rw[←List.map_id s]
  exact List.map_congr_left (fun x _=>by by_cases e:x=a<;>simp[e])
 ·rw[show replaceNum s [a] (-1)=count s [a] from by unfold replaceNum;simp]
  exact Yq a b _ s (Nat.lt_succ_self _)
end
theorem Eg.byte{w:World}{base g n cap:Nat}{bs:List UInt8}(h:Eg w base (.slice (some ⟨g,0,none⟩) n cap) bs)(k:Nat)(hk:k<bs.length) :
 w.cell? ⟨g,k,none⟩=some (.int .u8 (bs[k].toNat:Nat))∧w.frozen? ⟨g,k,none⟩=false∧∀x:UInt8,Eg (w.setCell ⟨g,k,none⟩ (.int .u8 (x.toNat:Nat))) base (.slice (some ⟨g,0,none⟩) n cap) (bs.set k x):=by
 rcases h with⟨e,_⟩|⟨g',cap',cur,fz,e,h1,h2,h3,h4,h5,h6,h7⟩
 ·cases e
 ·injection e with e1 e2 e3
  injection e1 with e1;injection e1 with e1;subst e1 e2 e3;have hkc:k<cur.size:=by omega
  have hc:cur[k]?=some (.int .u8 (bs[k].toNat:Nat)):=by
   have:=congrArg (fun l=>l[k]?) h6;simp only[List.getElem?_take_of_lt hk,Lib.strCells] at this;rw[Array.getElem?_toList] at this;rw[this];simp[hk]
  refine⟨by simp only[World.cell?,h2];exact hc,?_,fun x=>?_⟩
  ·have:=h7 k hkc
   simp only[World.frozen?,h2];simp only[Bool.and_eq_false_iff,decide_eq_false_iff_not];omega
  ·refine Or.inr ⟨g,cap,cur.setIfInBounds k (.int .u8 (x.toNat:Nat)),fz,by rw[List.length_set],h1,?_,by rw[List.length_set];exact h3,h4,by simpa using h5,?_,by simpa using h7⟩
   ·rw[setCell_eq_setRow w g k cur _ fz _ h2]
    exact setRow_heap w g cur _ _ _ h2
   ·rw[List.length_set,Array.toList_setIfInBounds,List.take_set,h6]
    simp[Lib.strCells,List.map_set]
theorem U6(s:List UInt8)(a b:UInt8)(w:World)(hs:s.length≤262144) :
 Calls prog 94 #[.string ⟨s.toArray⟩,.int .u8 (a.toNat:Int),.int .u8 (b.toNat:Int)] w fun e w'=>e=.returned (.string ⟨(Lib.replaceAll s [a] [b]).toArray⟩)∧Below w.heap.size w w':=by
 rw[Yr];obtain⟨cap,hrun,hrow,hb0⟩:=M0 w s hs;generalize Lib.bytesWorld w 5 ⟨s.toArray⟩=w1 at *;obtain⟨n,hn⟩:∃n,n=s.length:=⟨_,rfl⟩
 rw[←hn] at hrun hrow;have HROW:=zh hrow;have HB0:=zh hb0;have HN:=zh hn.symm;have hnn:n≤262144:=by omega
 clear hrow hb0 hn;go_enter func94,ntmps94;go_wp2;go_loopw [8] (fun i wr=>∃k:Nat,k≤n∧i=.int .i64 k∧Eg wr w.heap.size (.slice (some ⟨w.heap.size,0,none⟩) n cap) ((s.take k).map (fun x=>if x=a then b else x)++s.drop k)∧Below w.heap.size w wr) (fun i _=>n-(intOf i).toNat)
 case atStart=>exact⟨0,Nat.zero_le _,rfl,by simpa using HROW.out,HB0.out⟩
 case round=>
  obtain⟨k,hk,rfl,hr,hb⟩:=hrel
  by_cases hlt:k<n
  ·have hks:k<s.length:=by rw[HN.out];exact hlt
   have hkl:((s.take k).map (fun x=>if x=a then b else x)).length=k:=by simp;omega
   obtain⟨x,hx⟩:∃x,x=s[k]:=⟨_,rfl⟩
   have hdr:s.drop k=x::s.drop (k+1):=by rw[hx];exact List.drop_eq_getElem_cons hks
   have htk:(s.take (k+1)).map (fun x=>if x=a then b else x)=(s.take k).map (fun x=>if x=a then b else x)++[if x=a then b else x]:=by rw[List.take_succ_eq_append_getElem hks,List.map_append,hx];rfl
   have hkb:k<((s.take k).map (fun x=>if x=a then b else x)++s.drop k).length:=by rw[hdr];simp;omega
   obtain⟨c1,c2,c3⟩:=hr.byte k hkb;have hgl:w.heap.size<wr.heap.size:=hr.lt _ rfl
   have hget:((s.take k).map (fun x=>if x=a then b else x)++s.drop k)[k]'hkb=x:=by
    refine(List.getElem?_eq_some_iff.1 (?_:_=some x)).2;rw[List.getElem?_append_right (by omega),hkl,Nat.sub_self,hdr];rfl
   rw[hget] at c1;have hi0:(0:Int)≤(k:Int):=by omega
   have hi1:(k:Int)<(n:Int):=by omega
   have hkc:k<cap:=by
    rcases hr with⟨e,_⟩|⟨g',cap',cur,fz,e,h1,h2,h3,h4,h5,h6,h7⟩
    ·cases e
    ·injection e with e1 e2 e3;omega
   clear hx
   by_cases hxa:x=a
   ·subst hxa
    have h4:=c3 b
    have hset:((s.take k).map (fun y=>if y=x then b else y)++s.drop k).set k b=(s.take (k+1)).map (fun y=>if y=x then b else y)++s.drop (k+1):=by
     rw[List.set_append_right _ _ (by omega),hkl,Nat.sub_self,hdr,List.set_cons_zero,htk,if_pos rfl];simp
    rw[hset] at h4;have hb4:=hb.setCell (p:=⟨w.heap.size,k,none⟩) zl (.int .u8 (b.toNat:Nat));have H4:=zh h4;have HB4:=zh hb4;clear h4 hb4 hset c3 htk hdr hget hr hb hkb hkl;go_wp2;go_roundw
    case rel=>exact⟨k+1,by omega,by go_num,H4.out,HB4.out⟩
    case measure=>simp[intOf];omega
   ·have hne:((x.toNat:Int)==(a.toNat:Int))=false:=by
     refine beq_eq_false_iff_ne.2 fun e=>hxa (UInt8.toNat_inj.1 (by omega))
    have hne2:(x==a)=false:=beq_eq_false_iff_ne.2 hxa;have hne3:decide (x=a)=false:=decide_eq_false hxa
    have h4:Eg wr w.heap.size (.slice (some ⟨w.heap.size,0,none⟩) n cap) ((s.take (k+1)).map (fun y=>if y=a then b else y)++s.drop (k+1)):=by
     rw[htk,if_neg hxa,List.append_assoc];rw[hdr] at hr;exact hr
    have H4:=zh h4;have HB4:=zh hb;clear h4 hxa c3 htk hdr hget hr hb hkb hkl;go_wp2;go_roundw
    case rel=>exact⟨k+1,by omega,by go_num,H4.out,HB4.out⟩
    case measure=>simp[intOf];omega
  ·obtain rfl:k=n:=by omega
   rw[List.take_of_length_le (by rw[HN.out];omega),List.drop_of_length_le (by rw[HN.out];omega),List.append_nil] at hr;have hrun2:=M1 wr _ _ _ hr;have HB4:=zh hb;clear hr hb;go_wp2;go_ret;exact⟨rfl,HB4.out⟩
end Go.Proofs.YtppfkokfnoeopaaGreatDoor
namespace Go.Proofs.YtppfkokfnoeopaaGreatDoor
open Go.RowKit Go.Maps Go.Proofs.Tryz
theorem zJd:∀(rs:List RN) (P:Nat→Value→Prop),(∀(i j:Nat) (v:Value) (h:i<rs.length),rs[i].cells[j]?=some v→P (i*7+j) v)→∀(k:Nat) (u:Value),(Fk rs)[k]?=some u→P k u
 | [],P,_,k,u,h=>by simp[Fk] at h
 | r::t,P,hP,k,u,h=>by
  have e:Fk (r::t)=r.cells++Fk t:=by simp[Fk]
  rw[e] at h
  by_cases hk:k<7
  ·rw[List.getElem?_append_left (by rw[RN.len];exact hk)] at h
   have:=hP 0 k u (by simp) h
   rwa [Nat.zero_mul,Nat.zero_add] at this
  ·rw[List.getElem?_append_right (by rw[RN.len];omega),RN.len] at h
   have:=zJd t (fun q v=>P (7+q) v) (fun i j v hi hv=>by
    have h1:=hP (i+1) j v (by simpa using hi) (by simpa using hv)
    rwa [show(i+1)*7+j=7+(i*7+j) by omega] at h1) (k-7) u h
   rwa [show 7+(k-7)=k by omega] at this
theorem An.news{w:World}{R:RL}{rs:List RN}{c:CP}(h:An w R rs c):∀(k:Nat) (u:Value),(Fk rs)[k]?=some u→w.cell? ((⟨R.nb,R.off,none⟩:Addr).add k)=some u:=fun k u hu=>
 zJd rs (fun k u=>w.cell? ((⟨R.nb,R.off,none⟩:Addr).add k)=some u) (fun i j v hi hv=>by
  have hadd:(⟨R.nb,R.off,none⟩:Addr).add (i*7+j)=⟨R.nb,R.off+(i*7+j),none⟩:=by unfold Addr.add;split<;>simp_all
  rw[hadd,←Nat.add_assoc]
  exact h.row i j v hi hv) k u hu
theorem zCm(l:List RN):∀u∈Fk l,u.oneCell'=true:=fun u hu=>by
 obtain⟨r,_,hr⟩:=List.mem_flatMap.1 hu;exact RN.one r u hr
theorem zCl(l:List RN):(Fk l).length=l.length*7:=by
 induction l with
 | nil=>rfl
 | cons r t ih=>rw[show Fk (r::t)=r.cells++Fk t by simp[Fk],List.length_append,ih,RN.len,List.length_cons];omega
theorem zGy{w:World}{R:RL}{rs:List RN}{c:CP}{B0 g cap:Nat}(h:An w R rs c)(hB:B0≤w.heap.size)(ho:w.ownsRow B0 99 7 (.slice (some ⟨g,0,none⟩) rs.length cap) rs.length (Fk rs))(hfar:∀b off,R.pa=some ⟨b,off,none⟩→b<B0) :
 An (w.alloc (.cells #[.slice R.pa c.plan.length R.pc,.int .i64 c.time,.int .i64 c.now,.int .i64 c.asked,.slice (some ⟨g,0,none⟩) rs.length cap] 94)) ⟨w.heap.size,g,0,cap,R.pa,R.pc⟩ rs c∧B0≤g:=by
 have hal:Below w.heap.size w (w.alloc (.cells #[.slice R.pa c.plan.length R.pc,.int .i64 c.time,.int .i64 c.now,.int .i64 c.asked,.slice (some ⟨g,0,none⟩) rs.length cap] 94)):=zb.alloc zl _;have h2:=h.below hal;have hrow:=((Ac.owned ho).1).below hal
 rcases ho.2 with⟨e,_⟩|⟨g',cap2,cur,e,hg,hh,_⟩
 ·cases e
 ·injection e with e1 _ _
  injection e1 with e1;injection e1 with e1;subst e1;refine⟨⟨Af.new w _ _,⟨cur,(hal.block _ (Array.getElem?_eq_some_iff.1 hh).1).trans hh⟩,fun i j v hi hv=>?_,h2.plan,fun b off e=>?_,h2.each,h2.dom,h2.rise,h2.len⟩,hg⟩
  ·have hj:j<7:=by have:=(List.getElem?_eq_some_iff.1 hv).1;simpa[RN.cells] using this
   have:=hrow.cell (i:=i*7+j) (v:=v) (by rw[Fk,N7 RN.cells 7 RN.len rs i hi j hj];exact hv);dsimp only;rw[Nat.add_assoc];exact this
  ·have:=hfar b off e
   dsimp only;omega
theorem zDj(R:RL)(rs:List RN)(c:CP)(w:World)(h:An w R rs c)(h0:0<rs.length)(hfar:∀b off,R.pa=some ⟨b,off,none⟩→b<w.heap.size) :
 Calls prog 43 #[.pointer (some ⟨R.cb,0,none⟩)] w fun e w'=>∃R':RL,e=.returned (.pointer (some ⟨R'.cb,0,none⟩))∧An w' R' rs c∧R'.pa=R.pa∧w.heap.size≤R'.cb∧w.heap.size≤R'.nb∧Below w.heap.size w w':=by
 obtain⟨i0,hi,hz0,hz1,hz2⟩:=info_parts Rx;have hi':=zh hi;have hz0':=zh hz0;have hz1':=zh hz1;have hz2':=zh hz2;clear hi hz0 hz1 hz2;obtain⟨c0,c1,c2,c3,c4⟩:=h.cells;have hl16:=h.len;have hlt:=h.lt;have H:=zh h;have HNW:=zh ((h.drewN 1).news);have HFAR:=zh hfar;clear h hfar;go_enter func43,ntmps43;go_wp2;refine wp_region_held_drew (S:=fun w'=>w'.cell? ⟨R.cb,0,none⟩=some (.slice R.pa c.plan.length R.pc)∧w'.cell? ⟨R.cb,1,none⟩=some (.int .i64 c.time)∧w'.cell? ⟨R.cb,2,none⟩=some (.int .i64 c.now)∧w'.cell? ⟨R.cb,3,none⟩=some (.int .i64 c.asked)∧w'.cell? ⟨R.cb,4,none⟩=some (.slice (some ⟨R.nb,R.off,none⟩) rs.length R.nc)) (by kernel_rfl) ⟨(World.cell?_drewN _ 1 _).trans c0,(World.cell?_drewN _ 1 _).trans c1,(World.cell?_drewN _ 1 _).trans c2,(World.cell?_drewN _ 1 _).trans c3,(World.cell?_drewN _ 1 _).trans c4⟩ (fun hHeld=>?_);refine wpAnyH_take (i:=0) (v:=?_) rfl (by kernel_rfl) (by kernel_rfl) (by kernel_rfl) (fun _ _ _ h=>h) (Or.inl ⟨by rfl,?_⟩) (by assumption) ?_;rotate_left
 ·(intro w hSw;obtain⟨d0,d1,d2,d3,d4⟩:=hSw;go_simp;try with_reducible rfl)
 refine wpAnyH_take (i:=1) (v:=?_) rfl (by kernel_rfl) (by kernel_rfl) (by kernel_rfl) (fun _ _ _ h=>h) (Or.inl ⟨by rfl,?_⟩) (by assumption) ?_;rotate_left
 ·(intro w hSw;obtain⟨d0,d1,d2,d3,d4⟩:=hSw;go_simp;try with_reducible rfl)
 refine wpAnyH_take (i:=2) (v:=?_) rfl (by kernel_rfl) (by kernel_rfl) (by kernel_rfl) (fun _ _ _ h=>h) (Or.inl ⟨by rfl,?_⟩) (by assumption) ?_;rotate_left
 ·(intro w hSw;obtain⟨d0,d1,d2,d3,d4⟩:=hSw;go_simp;try with_reducible rfl)
 refine wpAnyH_take (i:=3) (v:=?_) rfl (by kernel_rfl) (by kernel_rfl) (by kernel_rfl) (fun _ _ _ h=>h) (Or.inl ⟨by rfl,?_⟩) (by assumption) ?_;rotate_left
 ·(intro w hSw;obtain⟨d0,d1,d2,d3,d4⟩:=hSw;go_simp;try with_reducible rfl)
 refine wpAnyH_take (i:=4) (v:=?_) rfl (by kernel_rfl) (by kernel_rfl) (by kernel_rfl) (fun _ _ _ h=>h) (Or.inl ⟨by rfl,?_⟩) (by assumption) ?_;rotate_left
 ·(intro w hSw;obtain⟨d0,d1,d2,d3,d4⟩:=hSw;go_simp;try with_reducible rfl)
 refine wpAnyH_take (i:=5) (v:=?_) rfl (by kernel_rfl) (by kernel_rfl) (by kernel_rfl) (fun _ _ _ h=>h) (Or.inl ⟨by rfl,?_⟩) (by assumption) ?_;rotate_left
 ·(intro w hSw;obtain⟨d0,d1,d2,d3,d4⟩:=hSw;go_simp;try with_reducible rfl)
 refine wpAnyH_take (i:=6) (v:=?_) rfl (by kernel_rfl) (by kernel_rfl) (by kernel_rfl) (fun _ _ _ h=>h) (Or.inl ⟨by rfl,?_⟩) (by assumption) ?_;rotate_left
 ·(intro w hSw;obtain⟨d0,d1,d2,d3,d4⟩:=hSw;go_simp;try with_reducible rfl)
 refine wpAnyH_take (i:=7) (v:=?_) rfl (by kernel_rfl) (by kernel_rfl) (by kernel_rfl) (fun _ _ _ h=>h) (Or.inl ⟨by rfl,?_⟩) (by assumption) ?_;rotate_left
 ·(intro w hSw;obtain⟨d0,d1,d2,d3,d4⟩:=hSw;go_simp;try with_reducible rfl)
 refine wpAnyH_take (i:=8) (v:=?_) rfl (by kernel_rfl) (by kernel_rfl) (by kernel_rfl) (fun _ _ _ h=>h) (Or.inl ⟨by rfl,?_⟩) (by assumption) ?_;rotate_left
 ·(intro w hSw;obtain⟨d0,d1,d2,d3,d4⟩:=hSw;go_simp;try with_reducible rfl)
 refine wpAnyH_take (i:=9) (v:=?_) rfl (by kernel_rfl) (by kernel_rfl) (by kernel_rfl) (fun _ _ _ h=>h) (Or.inl ⟨by rfl,?_⟩) (by assumption) ?_;rotate_left
 ·(intro w hSw;obtain⟨d0,d1,d2,d3,d4⟩:=hSw;go_simp;try with_reducible rfl)
 refine wpAnyH_take (i:=10) (v:=?_) rfl (by kernel_rfl) (by kernel_rfl) (by kernel_rfl) (fun _ _ _ h=>h) (Or.inl ⟨by rfl,?_⟩) (by assumption) ?_;rotate_left
 ·(intro w hSw;obtain⟨d0,d1,d2,d3,d4⟩:=hSw;go_simp;try with_reducible rfl)
 refine wpAnyH_take (i:=11) (v:=?_) rfl (by kernel_rfl) (by kernel_rfl) (by kernel_rfl) (fun _ _ _ h=>h) (Or.inl ⟨by rfl,?_⟩) (by assumption) ?_;rotate_left
 ·(intro w hSw;obtain⟨d0,d1,d2,d3,d4⟩:=hSw;go_simp;try with_reducible rfl)
 refine wpAnyH_take (i:=12) (v:=?_) rfl (by kernel_rfl) (by kernel_rfl) (by kernel_rfl) (fun _ _ _ h=>h) (Or.inl ⟨by rfl,?_⟩) (by assumption) ?_;rotate_left
 ·(intro w hSw;obtain⟨d0,d1,d2,d3,d4⟩:=hSw;go_simp;try with_reducible rfl)
 refine wpAnyH_take (i:=13) (v:=?_) rfl (by kernel_rfl) (by kernel_rfl) (by kernel_rfl) (fun _ _ _ h=>h) (Or.inl ⟨by rfl,?_⟩) (by assumption) ?_;rotate_left
 ·(intro w hSw;obtain⟨d0,d1,d2,d3,d4⟩:=hSw;go_simp;try with_reducible rfl)
 refine wpAnyH_take (i:=14) (v:=?_) rfl (by kernel_rfl) (by kernel_rfl) (by kernel_rfl) (fun _ _ _ h=>h) (Or.inl ⟨by rfl,?_⟩) (by assumption) ?_;rotate_left
 ·(intro w hSw;obtain⟨d0,d1,d2,d3,d4⟩:=hSw;go_simp;try with_reducible rfl)
 refine wpAnyH_take (i:=15) (v:=?_) rfl (by kernel_rfl) (by kernel_rfl) (by kernel_rfl) (fun _ _ _ h=>h) (Or.inl ⟨by rfl,?_⟩) (by assumption) ?_;rotate_left
 ·(intro w hSw;obtain⟨d0,d1,d2,d3,d4⟩:=hSw;go_simp;try with_reducible rfl)
 refine wpAnyH_take (i:=16) (v:=?_) rfl (by kernel_rfl) (by kernel_rfl) (by kernel_rfl) (fun _ _ _ h=>h) (Or.inl ⟨by rfl,?_⟩) (by assumption) ?_;rotate_left
 ·(intro w hSw;obtain⟨d0,d1,d2,d3,d4⟩:=hSw;go_simp;try with_reducible rfl)
 refine wpAnyH_take (i:=17) (v:=?_) rfl (by kernel_rfl) (by kernel_rfl) (by kernel_rfl) (fun _ _ _ h=>h) (Or.inl ⟨by rfl,?_⟩) (by assumption) ?_;rotate_left
 ·(intro w hSw;obtain⟨d0,d1,d2,d3,d4⟩:=hSw;go_simp;try with_reducible rfl)
 refine wpAnyH_take (i:=18) (v:=?_) rfl (by kernel_rfl) (by kernel_rfl) (by kernel_rfl) (fun _ _ _ h=>h) (Or.inl ⟨by rfl,?_⟩) (by assumption) ?_;rotate_left
 ·(intro w hSw;obtain⟨d0,d1,d2,d3,d4⟩:=hSw;go_simp;try with_reducible rfl)
 refine wpAnyH_take (i:=19) (v:=?_) rfl (by kernel_rfl) (by kernel_rfl) (by kernel_rfl) (fun _ _ _ h=>h) (Or.inl ⟨by rfl,?_⟩) (by assumption) ?_;rotate_left
 ·(intro w hSw;obtain⟨d0,d1,d2,d3,d4⟩:=hSw;go_simp;try with_reducible rfl)
 refine wpAnyH_take (i:=20) (v:=?_) rfl (by kernel_rfl) (by kernel_rfl) (by kernel_rfl) (fun _ _ _ h=>h) (Or.inl ⟨by rfl,?_⟩) (by assumption) ?_;rotate_left
 ·(intro w hSw;obtain⟨d0,d1,d2,d3,d4⟩:=hSw;go_simp;try with_reducible rfl)
 try simp(maxSteps:=10000000) only[List.getElem_toArray,List.getElem_cons_succ,List.getElem_cons_zero,Act.put,List.setIfInBounds_toArray,List.set_cons_succ,List.set_cons_zero]
 refine wpAnyH_ready (rs:=[21]) (by kernel_rfl) (by simp) ?_;refine AllReadyH.cons rfl (fun K hK=>?_) AllReadyH.nil;refine step_append_lies _ (by rfl) _ _ 92 (by rfl) w.heap.size 99 i0 _ 7 72 underlying92 hi'.out hz0'.out hz1'.out hz2'.out rfl (by omega) (.slice none 0 0) 0 [] (by rfl) (World.ownsRow_nil _ _ _ _) ⟨R.nb,R.off,none⟩ rs.length R.nc (Fk rs) (by rfl) (zCl rs) HNW.out (zCm rs) h0 (by unfold maxLen;omega) (by omega) (by simp) w.heap.size (by simp) ?_;intro gg cap2 w7 ho7 hg7 hat7 hlt7;rw[List.nil_append,Nat.zero_add] at ho7;have h7:Below w.heap.size w w7:=Below.grown (Ab zb 1) hg7 (by simp) (fun j e=>by simp[Value.ownBlock] at e);have R7:=An.below H.out h7;have q7:=An.cells R7;obtain⟨q0,q1,q2,q3,q4⟩:=q7;have h8:=zGy R7 h7.size ho7 HFAR.out;have hs7:=h7.size;have hv8:=h7.alloc h7.size (.cells #[.slice R.pa c.plan.length R.pc,.int .i64 c.time,.int .i64 c.now,.int .i64 c.asked,.slice (some ⟨gg,0,none⟩) rs.length cap2] 94);have H8:=zh h8;have HV8:=zh hv8;clear h8 hv8 R7 ho7 hg7 hat7;refine hK.out _ _ ⟨q0,q1,q2,q3,q4⟩ (fun hHeld=>?_);clear hK K
 try simp(maxSteps:=10000000) only[List.getElem_toArray,List.getElem_cons_succ,List.getElem_cons_zero,Act.put,List.setIfInBounds_toArray,List.set_cons_succ,List.set_cons_zero]
 refine wpAnyH_take (i:=22) (v:=?_) rfl (by kernel_rfl) (by kernel_rfl) (by kernel_rfl) (fun _ _ _ h=>h) (Or.inl ⟨by rfl,?_⟩) (by assumption) ?_;rotate_left
 ·(intro w hSw;go_simp;try with_reducible rfl)
 try simp(maxSteps:=10000000) only[List.getElem_toArray,List.getElem_cons_succ,List.getElem_cons_zero,Act.put,List.setIfInBounds_toArray,List.set_cons_succ,List.set_cons_zero]
 refine wpAnyH_ready (rs:=[23]) (by kernel_rfl) (by simp) ?_;refine AllReadyH.cons rfl (fun K hK=>?_) AllReadyH.nil;go_simp;refine hK.out _ _ ?_ (fun hHeld=>?_)
 ·exact An.cells (An.below (An.below H.out h7) (zb.alloc zl _))
 clear hK K
 try simp(maxSteps:=10000000) only[List.getElem_toArray,List.getElem_cons_succ,List.getElem_cons_zero,Act.put,List.setIfInBounds_toArray,List.set_cons_succ,List.set_cons_zero]
 refine wpAnyH_take (i:=24) (v:=?_) rfl (by kernel_rfl) (by kernel_rfl) (by kernel_rfl) (fun _ _ _ h=>h) (Or.inl ⟨by rfl,?_⟩) (by assumption) ?_;rotate_left
 ·(intro w hSw;go_simp;try with_reducible rfl)
 try simp(maxSteps:=10000000) only[List.getElem_toArray,List.getElem_cons_succ,List.getElem_cons_zero,Act.put,List.setIfInBounds_toArray,List.set_cons_succ,List.set_cons_zero]
 refine wpAnyH_done (by kernel_rfl) ?_ _;go_wp2;go_ret;exact⟨_,rfl,H8.out.1,rfl,hs7,H8.out.2,HV8.out⟩
theorem zDc{s:List UInt8}{n:Int}(h:Cl s=some n):(44:UInt8)∉s:=by
 rw[((D7 s n).1 h).1];exact Hh (by decide) n
theorem Yf(s:List UInt8):(Cl s=none∧∀n,Bi (Az 44 s)≠some [n])∨∃n,Cl s=some n∧Bi (Az 44 s)=some [n]:=by
 by_cases hc:(44:UInt8)∈s
 ·refine Or.inl ⟨?_,fun n h=>?_⟩
  ·cases h:Cl s with
   | none=>rfl
   | some n=>exact absurd hc (zDc h)
  ·have h1:=En h
   obtain⟨x,hx⟩:∃x,Az 44 s=[x]:=List.length_eq_one_iff.1 h1.symm
   have h2:=Es 44 s;rw[hx] at h2;have h3:=Jy 44 s x (by rw[hx];simp);have h4:x=s:=by simpa[Cv] using h2
   exact h3 (h4▸hc)
 ·rw[Me 44 s hc]
  cases h:Cl s with
  | none=>exact Or.inl ⟨rfl,fun n hn=>by simp[Bi,Bv,h] at hn⟩
  | some n=>exact Or.inr ⟨n,rfl,by simp[Bi,Bv,h]⟩
structure Ex(w:World)(base:Nat)(R:RL)(c:CP):Prop where
 ref:∃rs,An w R rs c
 inv:Ce c
 low:base≤R.cb∧base≤R.nb
 pat:∀b off,R.pa=some ⟨b,off,none⟩→∃cur,Af w b 3 cur
theorem Ex.below{w w':World}{base:Nat}{R:RL}{c:CP}(h:Ex w base R c)(hb:Below w.heap.size w w'):Ex w' base R c:=by
 obtain⟨rs,hr⟩:=h.ref
 exact⟨⟨rs,hr.below hb⟩,h.inv,h.low,fun b off e=>by
  obtain⟨cur,hk⟩:=h.pat b off e
  exact⟨cur,hk.kept hb⟩⟩
theorem Ex.size{w:World}{base:Nat}{R:RL}{c:CP}(h:Ex w base R c):base≤w.heap.size:=by
 obtain⟨rs,hr⟩:=h.ref;have:=hr.lt.1;have:=h.low.1;omega
theorem Ex.weak{w:World}{base base':Nat}{R:RL}{c:CP}(h:Ex w base R c)(hb:base'≤base):Ex w base' R c:=⟨h.ref,h.inv,⟨Nat.le_trans hb h.low.1,Nat.le_trans hb h.low.2⟩,h.pat⟩
theorem Ex.step{w w':World}{base:Nat}{R:RL}{c c':CP}(h:Ex w base R c)(hF:Fr R.own w w')(hI:Ce c')(hr:∃rs,An w' R rs c'):Ex w' base R c':=by
 obtain⟨rs,hr0⟩:=h.ref
 exact⟨hr,hI,h.low,fun b off e=>by
  obtain⟨cur,hk⟩:=h.pat b off e;obtain⟨n1,n2⟩:=hr0.pfar b off e
  exact⟨cur,(hF.block b hk.lt (fun ho=>ho.elim n1 n2)).trans hk⟩⟩
theorem Ex.states{w:World}{base:Nat}{R:RL}{c:CP}(h:Ex w base R c):∀i x,c.f i=some x→x.st=0∨x.st=1∨x.st=2:=fun i x hf=>(h.inv.node i x hf).st
def D2(base:Nat)(R:RL)(c:CP)(ws:List (List UInt8))(w:World)(e:Ending)(w':World):Prop:=
 ∃(p:Option Addr) (t:List UInt8),e=.returned (.tuple #[.pointer p,.string ⟨t.toArray⟩,.int .i64 ((c.change ws).2.2:Nat)])∧Fr R.own w w' ∧
  ((c.change ws).2.2=0→t=(c.change ws).2.1∧∃R':RL,p=some ⟨R'.cb,0,none⟩∧Ex w' base R' (c.change ws).1∧∀j,R'.own j→R.own j∨w.heap.size≤j)
theorem zAn(R:RL)(rs:List RN)(c:CP)(la:Option Addr)(ln lc:Nat)(lost:List Int)(w:World)(h:An w R rs c)(hI:Ce c)(hll:lost.length=ln)(hlr:Ac w la (Aa lost))(hlc:ln≤1000)(hlf:lost≠[]→∀b off,la=some ⟨b,off,none⟩→b≠R.cb∧b≠R.nb) :
 Calls prog 93 #[.pointer (some ⟨R.cb,0,none⟩),.slice la ln lc] w fun e w'=>e=.returned (.tuple #[.string ⟨c.slotT.toArray⟩,.int .i64 ((c.slotF lost).2:Nat)])∧(∃rs',An w' R rs' (c.slotF lost).1)∧Fr R.own w w':=
 zDp R rs c la ln lc lost w h hI hll hlr hlc hlf
theorem zAm(base:Nat)(R:RL)(c:CP)(wa:Option Addr)(wc:Nat)(w1:List UInt8)(w:World)(h:Ex w base R c)(hr:Ac w wa (Ad [[115,108,111,116],w1]))(h1:w1.length≤100000) :
 Calls prog 42 #[.pointer (some ⟨R.cb,0,none⟩),.slice wa 2 wc] w (D2 base R c [[115,108,111,116],w1] w):=by
 obtain⟨b,off,rfl,hbl,hc⟩:=hr.at (by simp[Ad]);have c0:w.cell? ⟨b,off,none⟩=some (.string ⟨([115,108,111,116]:List UInt8).toArray⟩):=hc 0 _ rfl;have c1:w.cell? ⟨b,off+1,none⟩=some (.string ⟨w1.toArray⟩):=hc 1 _ rfl;have KR:=zh (Ou w1 w h1);have KW:=zh (fun(s:List UInt8) (W:World) (hs:s.length≤262144)=>U6 s 32 95 W hs);have H:=zh h;clear hr hc h
 cases hf:Cq w1 with
 | none=>
  have HS:Hid (c.change [[115,108,111,116],w1]=(c,[],1)):=by unfold Hid;rw[Lj,CP.slotW,hf]
  rw[hf] at KR;have KR2:Hid (Calls prog 92 #[.string ⟨w1.toArray⟩] w fun e w'=>e=.returned (.tuple #[.int .i64 0,.int .i64 1])∧Below w.heap.size w w'):=KR;clear KR KW;go_enter func42,ntmps42;go_wp2_with fail;refine KR2.out.mono ?_;rintro e w2⟨rfl,hb2⟩;go_wp2;go_ret3;unfold D2;rw[HS.out];exact⟨_,[],rfl,Fr.of hb2,fun h=>absurd h Nat.one_ne_zero⟩
 | some k=>
  obtain⟨lost,hlost⟩:∃lost,lost=Ao ((k:Nat):Int) 16:=⟨_,rfl⟩
  have HS:Hid (c.change [[115,108,111,116],w1]=((c.slotF lost).1,Lib.replaceAll (if c.slotT=[] then Oh else c.slotT) [32] [95],(c.slotF lost).2)):=by unfold Hid;rw[Lj,CP.slotW,hf,hlost]
  have hll:lost.length≤16:=by rw[hlost];exact Ck _ _
  rw[hf] at KR;have KR2:Hid (Calls prog 92 #[.string ⟨w1.toArray⟩] w fun e w'=>e=.returned (.tuple #[.int .i64 ((k:Nat):Int),.int .i64 0])∧Below w.heap.size w w'):=KR;have KL:=zh (fun W:World=>Nc ((k:Nat):Int) W);rw[←hlost] at KL;have hsl:c.slotT.length≤95:=Vg H.out.inv;clear KR hlost;generalize ((k:Nat):Int)=kc at *;go_enter func42,ntmps42;go_wp2_with fail;refine KR2.out.mono ?_;rintro e w2⟨rfl,hb2⟩;have h2:=H.out.below hb2;have KL2:=zh (KL.out w2);go_wp2_with fail;refine KL2.out.mono ?_;rintro e w3⟨ao,n,co,rfl,ho3,hn3,_,hb3⟩;have h3:=h2.below hb3;have hsz:=ho3.lt;obtain⟨rs,hr3⟩:=h3.ref;have hlt2:R.cb<w2.heap.size∧R.nb<w2.heap.size:=by obtain⟨rs2,hr2⟩:=h2.ref;exact hr2.lt
  have KS:=zh (zAn R rs c ao n co lost w3 hr3 h3.inv hn3 (Ac.owned ho3).1 (by omega) (fun _ b off e=>by
   have:=(hsz b (by rw[e];rfl)).1
   omega))
  have HF3:=zh (show Fr R.own w w3 from(Fr.of hb2).off hb3);have H3:=zh h3;clear h2 h3 hsz hr3 hb2 hb3 ho3 hn3 KL KL2 KR2 hlt2;go_wp2_with fail;refine KS.out.mono ?_;rintro e w4⟨rfl,hR4,hF4⟩;have H4:=zh (H3.out.step hF4 (H3.out.inv.slotF lost) hR4);have HF4:=zh (HF3.out.trans hF4);clear hR4 hF4 KS
  by_cases hs:c.slotT=[]
  ·have KW4:=zh (KW.out Oh w4 (by decide))
   rw[hs] at HS;rw[if_pos rfl] at HS;rw[hs];clear KW hs hsl;go_wp2_with fail;refine KW4.out.mono ?_;rintro e w5⟨rfl,hb5⟩;go_wp2;go_ret3;unfold D2;rw[HS.out];exact⟨_,_,rfl,HF4.out.off hb5,fun _=>⟨rfl,R,rfl,H4.out.below hb5,fun j h=>Or.inl h⟩⟩
  ·have KW4:=zh (KW.out c.slotT w4 (by omega))
   rw[if_neg hs] at HS;generalize c.slotT=t at *;have hsb:(t==[])=false:=by simpa using hs
   clear KW hs hsl;go_wp2_with fail;refine KW4.out.mono ?_;rintro e w5⟨rfl,hb5⟩;go_wp2;go_ret3;unfold D2;rw[HS.out];exact⟨_,_,rfl,HF4.out.off hb5,fun _=>⟨rfl,R,rfl,H4.out.below hb5,fun j h=>Or.inl h⟩⟩
theorem zAl(base:Nat)(R:RL)(c:CP)(wa:Option Addr)(wc:Nat)(w1:List UInt8)(w:World)(h:Ex w base R c)(hr:Ac w wa (Ad [[112,108,97,110],w1]))(h1:w1.length≤100000) :
 Calls prog 42 #[.pointer (some ⟨R.cb,0,none⟩),.slice wa 2 wc] w (D2 base R c [[112,108,97,110],w1] w):=by
 obtain⟨b,off,rfl,hbl,hc⟩:=hr.at (by simp[Ad]);have c0:w.cell? ⟨b,off,none⟩=some (.string ⟨([112,108,97,110]:List UInt8).toArray⟩):=hc 0 _ rfl;have c1:w.cell? ⟨b,off+1,none⟩=some (.string ⟨w1.toArray⟩):=hc 1 _ rfl;have KN:=zh (Hw w1 44 w h1);rw[show((44:UInt8).toNat:Int)=44 from rfl] at KN;have HB:=zh h.size;have HS0:Hid (c.change [[112,108,97,110],w1]=((c.planW w1).1,okB,(c.planW w1).2)):=Li c w1;clear hr hc h;go_enter func42,ntmps42;go_wp2_with fail;refine KN.out.mono ?_;rintro e w2 (⟨xs,ao,co,hx,rfl,ho2,hb2⟩|⟨hx,rfl,hb2⟩)
 ·have HS:Hid (c.change [[112,108,97,110],w1]=(CP.new xs,okB,(Ay xs).1)):=by unfold Hid;rw[HS0.out,CP.planW,J5,hx]
  have d0:=(hb2.cell (p:=⟨b,off,none⟩) hbl).trans c0;have hpat:∀b off,ao=some ⟨b,off,none⟩→∃cur,Af w2 b 3 cur:=fun b off e=>Ey ho2 b (by rw[e];rfl)
  have hro:=(Ac.owned ho2).1
  have hxl:xs.length≤4611686018427387904:=by
   have h2:=En hx;have h3:=Ch 44 w1;omega
  have HB2:=zh hb2;have HX:=zh hx;clear hx ho2 hb2 KN c0 c1 HS0
  by_cases hp:(Ay xs).1=0
  ·have K:=zh (zB3 ao xs.length co xs w2 rfl hro hp)
   have HP:=zh hp;rw[hp] at HS;clear hp hro;go_wp2_with fail;refine K.out.mono ?_;rintro e w3⟨R',rs',rfl,hR3,hpa,hcb,hnb,hb3⟩;have hal:Below w3.heap.size w3 (w3.alloc (.cells #[.int .i64 0,.int .i64 (-1)] 55)):=zb.alloc zl _;have HR3:=zh (hR3.below hal);have HB3:=zh (Ar (Ar HB2.out hb3) hal)
   have HPT:=zh (fun b off (e:R'.pa=some ⟨b,off,none⟩)=>by
    obtain⟨cur,hk⟩:=hpat b off (hpa▸e)
    exact(⟨cur,(hk.kept hb3).kept hal⟩:∃cur,Af (w3.alloc (.cells #[.int .i64 0,.int .i64 (-1)] 55)) b 3 cur))
   have HLO:=zh (show w.heap.size≤R'.cb∧w.heap.size≤R'.nb from⟨Nat.le_trans HB2.out.size hcb,Nat.le_trans HB2.out.size hnb⟩);clear hR3 hpa hcb hnb hb3 hal hpat K;go_wp2;go_quiet (fail);go_wp2;go_ret3;unfold D2;rw[HS.out];refine⟨_,okB,rfl,Fr.of ?_,fun _=>⟨rfl,R',rfl,⟨⟨rs',?_⟩,Ce.new HP.out,⟨Nat.le_trans HB.out HLO.out.1,Nat.le_trans HB.out HLO.out.2⟩,?_⟩,fun j hj=>Or.inr ?_⟩⟩
   ·exact Ab HB3.out _
   ·exact HR3.out.drewN _
   ·intro b off e
    obtain⟨cur,hk⟩:=HPT.out b off e;exact⟨cur,hk⟩
   ·rcases hj with rfl|rfl
    ·exact HLO.out.1
    ·exact HLO.out.2
  ·have K:=zh (zGz ao xs.length co xs w2 rfl hro hxl hp)
   have HP:=zh hp;generalize Ay xs=pf at *;obtain⟨p1,p2⟩:=pf;dsimp only at K HS HP;clear hp hro hpat;go_wp2_with fail;refine K.out.mono ?_;rintro e w3⟨rfl,hb3⟩;have HB3:=zh (Ar (Ar HB2.out hb3) (zb.alloc zl (.cells #[.int .i64 (p1:Nat),.int .i64 p2] 55)));clear hb3 K;go_wp2;go_quiet (fail);go_wp2;go_ret3;unfold D2;rw[HS.out];exact⟨_,okB,rfl,Fr.of (Ab HB3.out _),fun h=>absurd h HP.out⟩
 ·have HS:Hid (c.change [[112,108,97,110],w1]=(c,okB,1)):=by unfold Hid;rw[HS0.out,CP.planW,J5,hx]
  clear hx KN;go_wp2;go_ret3;unfold D2;rw[HS.out];exact⟨_,[],rfl,Fr.of hb2,fun h=>absurd h Nat.one_ne_zero⟩
theorem zDl(base:Nat)(R:RL)(c:CP)(n:Int)(w:World)(h:Ex w base R c) :
 Calls prog 96 #[.pointer (some ⟨R.cb,0,none⟩),.int .i64 n] w fun e w'=>e=.returned (.int .i64 (c.turn n 0).2)∧Ex w' base R (c.turn n 0).1∧Fr R.own w w':=by
 obtain⟨rs,hr⟩:=h.ref;exact(zG0 R rs c n w hr).mono (fun _ _ q=>⟨q.1,h.step (q.2.2.mono (fun _ e=>Or.inr e)) (h.inv.turn n 0 (Or.inl rfl)) q.2.1,q.2.2.mono (fun _ e=>Or.inr e)⟩)
theorem zG1(base:Nat)(R:RL)(c:CP)(n:Int)(w:World)(h:Ex w base R c) :
 Calls prog 97 #[.pointer (some ⟨R.cb,0,none⟩),.int .i64 n] w fun e w'=>e=.returned (.int .i64 (c.turn n 1).2)∧Ex w' base R (c.turn n 1).1∧Fr R.own w w':=by
 obtain⟨rs,hr⟩:=h.ref;exact(zIz R rs c n w hr h.states).mono (fun _ _ q=>⟨q.1,h.step (q.2.2.mono (fun _ e=>Or.inr e)) (h.inv.turn n 1 (Or.inr rfl)) q.2.1,q.2.2.mono (fun _ e=>Or.inr e)⟩)
theorem zDi(base:Nat)(R:RL)(c:CP)(n:Int)(w:World)(h:Ex w base R c) :
 Calls prog 98 #[.pointer (some ⟨R.cb,0,none⟩),.int .i64 n] w fun e w'=>e=.returned (.int .i64 (c.ask n).2)∧Ex w' base R (c.ask n).1∧Fr R.own w w':=by
 obtain⟨rs,hr⟩:=h.ref;exact(zGx R rs c n w hr).mono (fun _ _ q=>⟨q.1,h.step (q.2.2.mono (fun _ e=>Or.inl e)) (h.inv.ask n) ⟨rs,q.2.1⟩,q.2.2.mono (fun _ e=>Or.inl e)⟩)
theorem zDo(base:Nat)(R:RL)(c:CP)(n v:Int)(w:World)(h:Ex w base R c) :
 Calls prog 99 #[.pointer (some ⟨R.cb,0,none⟩),.int .i64 n,.int .i64 v] w fun e w'=>e=.returned (.int .i64 (c.set n v).2)∧Ex w' base R (c.set n v).1∧Fr R.own w w':=by
 obtain⟨rs,hr⟩:=h.ref;exact(zG2 R rs c n v w hr).mono (fun _ _ q=>⟨q.1,h.step (q.2.2.mono (fun _ e=>Or.inr e)) (h.inv.set n v) q.2.1,q.2.2.mono (fun _ e=>Or.inr e)⟩)
theorem Pi(base:Nat)(R:RL)(c:CP)(wa:Option Addr)(wc:Nat)(w0 w1:List UInt8)(w:World)(h:Ex w base R c)(h0:w0=[111,102,102]∨w0=[111,110]∨w0=[109,111,100,101])(hr:Ac w wa (Ad [w0,w1]))(h1:w1.length≤100000) :
 Calls prog 42 #[.pointer (some ⟨R.cb,0,none⟩),.slice wa 2 wc] w (D2 base R c [w0,w1] w):=by
 obtain⟨b,off,rfl,hbl,hc⟩:=hr.at (by simp[Ad]);have c0:w.cell? ⟨b,off,none⟩=some (.string ⟨w0.toArray⟩):=hc 0 _ rfl;have c1:w.cell? ⟨b,off+1,none⟩=some (.string ⟨w1.toArray⟩):=hc 1 _ rfl;have KN:=zh (Hw w1 44 w h1);rw[show((44:UInt8).toNat:Int)=44 from rfl] at KN;have HS0:Hid (c.change [w0,w1]=((c.oneW w0 w1).1,okB,(c.oneW w0 w1).2)):=Ri c w0 w1 (by rcases h0 with rfl|rfl|rfl<;>decide) (by rcases h0 with rfl|rfl|rfl<;>decide) (by rcases h0 with rfl|rfl|rfl<;>decide);have H:=zh h;have K1:=zh (zDl base R c);have K2:=zh (zG1 base R c);have K3:=zh (zDi base R c);clear hr hc h
 rcases Yf w1 with⟨hn,hno⟩|⟨n,hn,hx1⟩
 ·have HS:Hid (c.change [w0,w1]=(c,okB,1)):=by unfold Hid;rw[HS0.out,CP.oneW,hn]
  have HNO:=zh hno;clear hn hno K1 K2 K3 HS0
  rcases h0 with rfl|rfl|rfl
  all_goals
   go_enter func42,ntmps42;go_wp2_with fail;refine KN.out.mono ?_;rintro e w2 (⟨xs,ao,co,hx,rfl,ho2,hb2⟩|⟨hx,rfl,hb2⟩)
   ·have d0:=(hb2.cell (p:=⟨b,off,none⟩) hbl).trans c0
    have hne:((xs.length:Int) != 1)=true:=by
     rw[bne_iff_ne];intro e;obtain⟨x,rfl⟩:=List.length_eq_one_iff.1 (show xs.length=1 by omega);exact HNO.out x hx
    clear hx ho2 KN c0 c1;go_wp2;go_ret3;unfold D2;rw[HS.out];exact⟨_,[],rfl,Fr.of hb2,fun h=>absurd h Nat.one_ne_zero⟩
   ·clear hx KN
    go_wp2;go_ret3;unfold D2;rw[HS.out];exact⟨_,[],rfl,Fr.of hb2,fun h=>absurd h Nat.one_ne_zero⟩
 ·have HS1:Hid (c.oneW w0 w1=if w0=[111,102,102] then c.turn n 0 else if w0=[111,110] then c.turn n 1 else c.ask n):=by unfold Hid;rw[CP.oneW,hn]
  have HX1:=zh hx1;clear hn hx1
  rcases h0 with rfl|rfl|rfl
  all_goals
   go_enter func42,ntmps42;go_wp2_with fail;refine KN.out.mono ?_;rintro e w2 (⟨xs,ao,co,hx,rfl,ho2,hb2⟩|⟨hx,rfl,hb2⟩);rotate_left
   ·exact absurd (hx.symm.trans HX1.out) (by simp)
   obtain rfl:xs=[n]:=Option.some.inj (hx.symm.trans HX1.out);have d0:=(hb2.cell (p:=⟨b,off,none⟩) hbl).trans c0;obtain⟨b2,off2,rfl,hbl2,x0⟩:=(Ac.owned ho2).1.int 0 (by simp);have x0:w2.cell? ⟨b2,off2,none⟩=some (.int .i64 n):=x0;have H2:=H.out.below hb2;have HB2:=zh hb2;have k1:=zh (K1.out n w2 H2);have k2:=zh (K2.out n w2 H2);have k3:=zh (K3.out n w2 H2);clear hx ho2 KN c0 c1 K1 K2 K3 hb2 H2 HX1;simp only[reduceIte,List.cons.injEq] at HS1;go_wp2_with fail
   with_reducible first
    | refine k1.out.mono ?_
    | refine k2.out.mono ?_
    | refine k3.out.mono ?_
   rintro e w3⟨rfl,hC3,hF3⟩;go_wp2;go_ret3;unfold D2;rw[HS0.out,HS1.out];exact⟨_,okB,rfl,Fr.trans (Fr.of HB2.out) hF3,fun _=>⟨rfl,R,rfl,hC3,fun j h=>Or.inl h⟩⟩
theorem zDn(base:Nat)(R:RL)(c:CP)(wa:Option Addr)(wc:Nat)(w1 w2:List UInt8)(w:World)(h:Ex w base R c)(hr:Ac w wa (Ad [[115,101,116],w1,w2]))(h1:w1.length≤100000)(h2:w2.length≤100000) :
 Calls prog 42 #[.pointer (some ⟨R.cb,0,none⟩),.slice wa 3 wc] w (D2 base R c [[115,101,116],w1,w2] w):=by
 obtain⟨b,off,rfl,hbl,hc⟩:=hr.at (by simp[Ad]);have c0:w.cell? ⟨b,off,none⟩=some (.string ⟨([115,101,116]:List UInt8).toArray⟩):=hc 0 _ rfl;have c1:w.cell? ⟨b,off+1,none⟩=some (.string ⟨w1.toArray⟩):=hc 1 _ rfl;have c2:w.cell? ⟨b,off+2,none⟩=some (.string ⟨w2.toArray⟩):=hc 2 _ rfl;have KN:=zh (Hw w1 44 w h1);rw[show((44:UInt8).toNat:Int)=44 from rfl] at KN;have KM:=zh (fun W:World=>D8 w2 W h2);have HS0:Hid (c.change [[115,101,116],w1,w2]=((c.setW w1 w2).1,okB,(c.setW w1 w2).2)):=Rj c w1 w2;have H:=zh h;have K1:=zh (zDo base R c);clear hr hc h
 rcases Yf w1 with⟨hn,hno⟩|⟨n,hn,hx1⟩
 ·have HS:Hid (c.change [[115,101,116],w1,w2]=(c,okB,1)):=by unfold Hid;rw[HS0.out,CP.setW,hn]
  have HNO:=zh hno;clear hn hno K1 HS0 KM;go_enter func42,ntmps42;go_wp2_with fail;refine KN.out.mono ?_;rintro e w4 (⟨xs,ao,co,hx,rfl,ho2,hb2⟩|⟨hx,rfl,hb2⟩)
  ·have d0:=(hb2.cell (p:=⟨b,off,none⟩) hbl).trans c0
   have hne:((xs.length:Int) != 1)=true:=by
    rw[bne_iff_ne];intro e;obtain⟨x,rfl⟩:=List.length_eq_one_iff.1 (show xs.length=1 by omega);exact HNO.out x hx
   clear hx ho2 KN c0 c1;go_wp2;go_ret3;unfold D2;rw[HS.out];exact⟨_,[],rfl,Fr.of hb2,fun h=>absurd h Nat.one_ne_zero⟩
  ·clear hx KN
   go_wp2;go_ret3;unfold D2;rw[HS.out];exact⟨_,[],rfl,Fr.of hb2,fun h=>absurd h Nat.one_ne_zero⟩
 ·have HX1:=zh hx1
  have hm:(Aw w2=false∧c.setW w1 w2=(c,1))∨(Aw w2=true∧c.setW w1 w2=c.set n (Ah w2)):=by
   unfold CP.setW Aw Ah;rw[hn]
   cases Cl w2 with
   | none=>exact Or.inl ⟨rfl,rfl⟩
   | some v=>exact Or.inr ⟨rfl,rfl⟩
  clear hn hx1;go_enter func42,ntmps42;go_wp2_with fail;refine KN.out.mono ?_;rintro e w4 (⟨xs,ao,co,hx,rfl,ho2,hb2⟩|⟨hx,rfl,hb2⟩);rotate_left
  ·exact absurd (hx.symm.trans HX1.out) (by simp)
  obtain rfl:xs=[n]:=Option.some.inj (hx.symm.trans HX1.out);have d0:=(hb2.cell (p:=⟨b,off,none⟩) hbl).trans c0;have d2:=(hb2.cell (p:=⟨b,off+2,none⟩) hbl).trans c2;obtain⟨b2,off2,rfl,hbl2,x0⟩:=(Ac.owned ho2).1.int 0 (by simp);have x0:w4.cell? ⟨b2,off2,none⟩=some (.int .i64 n):=x0;have k0:=zh (KM.out w4);have k1:=zh (K1.out n (Ah w2) w4 (H.out.below hb2));have HB2:=zh hb2;clear hx ho2 KN KM c0 c1 c2 K1 hb2 HX1
  rcases hm with⟨hm,hs⟩|⟨hm,hs⟩
  ·rw[hm] at k0
   have HS:Hid (c.change [[115,101,116],w1,w2]=(c,okB,1)):=by unfold Hid;rw[HS0.out,hs]
   clear hm hs;go_wp2_with fail;refine k0.out.mono ?_;rintro e w5⟨rfl,rfl⟩;go_wp2;go_ret3;unfold D2;rw[HS.out];exact⟨_,[],rfl,Fr.of HB2.out,fun h=>absurd h Nat.one_ne_zero⟩
  ·rw[hm] at k0
   have HS:Hid (c.change [[115,101,116],w1,w2]=((c.set n (Ah w2)).1,okB,(c.set n (Ah w2)).2)):=by unfold Hid;rw[HS0.out,hs]
   generalize Ah w2=v at *;clear hm hs;go_wp2_with fail;refine k0.out.mono ?_;rintro e w5⟨rfl,rfl⟩;go_wp2_with fail;refine k1.out.mono ?_;rintro e w6⟨rfl,hC3,hF3⟩;go_wp2;go_ret3;unfold D2;rw[HS.out];exact⟨_,okB,rfl,Fr.trans (Fr.of HB2.out) hF3,fun _=>⟨rfl,R,rfl,hC3,fun j h=>Or.inl h⟩⟩
theorem Ql(base:Nat)(R:RL)(c:CP)(wa:Option Addr)(wcp n:Nat)(ws:List (List UInt8))(w:World)(h:Ex w base R c)(hr:Ac w wa (Ad ws))(hn:ws.length=n)(hl:∀x∈ws,x.length≤100000)(hk:Bz (ws.getD 0 [])=(n:Int)-1)(h0:0<n) :
 Calls prog 42 #[.pointer (some ⟨R.cb,0,none⟩),.slice wa n wcp] w (D2 base R c ws w):=by
 rcases Qr hk (by omega) with⟨e,hw⟩|⟨e,hw⟩
 ·obtain rfl:n=2:=by omega
  obtain⟨x,y,rfl⟩:∃x y,ws=[x,y]:=by
   match ws,hn with
   | [x,y],_=>exact⟨x,y,rfl⟩
  have hy:=hl y (by simp)
  rcases hw with hw|hw|hw|hw|hw
  all_goals(obtain rfl:x=_:=hw)
  ·exact zAl base R c wa wcp y w h hr hy
  ·exact Pi base R c wa wcp _ y w h (Or.inl rfl) hr hy
  ·exact Pi base R c wa wcp _ y w h (Or.inr (Or.inl rfl)) hr hy
  ·exact Pi base R c wa wcp _ y w h (Or.inr (Or.inr rfl)) hr hy
  ·exact zAm base R c wa wcp y w h hr hy
 ·obtain rfl:n=3:=by omega
  obtain⟨x,y,z,rfl⟩:∃x y z,ws=[x,y,z]:=by
   match ws,hn with
   | [x,y,z],_=>exact⟨x,y,z,rfl⟩
  obtain rfl:x=_:=hw;exact zDn base R c wa wcp y z w h hr (hl y (by simp)) (hl z (by simp))
theorem Pa(es:List Ent)(m i:Nat):(Gc es m)[i]?=if i<m then some (Gz ((i:Int)+1) es) else none:=by
 unfold Gc;rw[List.getElem?_map]
 split
 ·rename_i h;rw[List.getElem?_range h];rfl
 ·rename_i h;rw[List.getElem?_eq_none (by simp;omega)];rfl
theorem R5(es:List Ent)(hf:∀k (hk:k<es.length),1≤es[k].frm∧es[k].frm≤16):∀k,k≤es.length→Dr (es.take k)=Gc (es.take k) 16
 | 0,_=>by rw[List.take_zero];decide +kernel
 | k+1,hk=>by
  have ih:=R5 es hf k (by omega);have h1:=hf k (by omega);rw[R4 es k (by omega),ih];apply List.ext_getElem?;intro i;rw[Pa]
  by_cases hm:es[k].frm=(i:Int)+1∧es[k].heard=true
  ·have he:(es[k].frm-1).toNat=i:=by omega
   rw[Fo,if_pos hm.2,he,if_pos (by omega),Uu _ es k (by omega) hm];rw[List.getElem?_set_self (by rw[Oe];omega)]
  ·rw[R8 _ es k (by omega) hm,Fo]
   by_cases hh:es[k].heard=true
   ·have he:(es[k].frm-1).toNat≠i:=fun e=>hm ⟨by omega,hh⟩
    rw[if_pos hh,List.getElem?_set_ne he,Pa]
   ·rw[if_neg hh,Pa]
theorem X5{es:List Ent}(h:(chk es).1=0):Dr es=Gc es 16:=by
 have:=R5 es (fun k hk=>by have:=(Hf h k hk).2.1;simpa only[Aq,decide_eq_true_eq] using this) es.length zl
 rwa [List.take_length] at this
theorem Qm(j:Int)(x:NP)(la:Option Addr)(n lc:Nat)(w:World)(hd:0≤x.d∧x.d≤3)(hs:0≤x.s∧x.s≤200) :
 Calls prog 54 #[.agg #[.int .i64 j,.int .i64 x.st,.int .i64 x.val,.int .i64 x.m,.int .i64 x.d,.int .i64 x.s,.slice la n lc]] w fun e w'=>e=.returned (.string ⟨(x.viewT).toArray⟩)∧Below w.heap.size w w':=by
 have HV:Hid (x.viewT=Db x.m++32::(Lib.itoa x.d++32::Lib.itoa x.s)):=rfl;go_enter func54,ntmps54;go_upto_region 1 with(fail);obtain⟨W1,hW1⟩:∃W,W=w.alloc (.cells #[.int .i64 j,.int .i64 x.st,.int .i64 x.val,.int .i64 x.m,.int .i64 x.d,.int .i64 x.s,.slice la n lc] 99):=⟨_,rfl⟩
 rw[←hW1];have hB1:Af W1 w.heap.size 99 #[.int .i64 j,.int .i64 x.st,.int .i64 x.val,.int .i64 x.m,.int .i64 x.d,.int .i64 x.s,.slice la n lc]:=by rw[hW1];exact Af.new w _ _
 have hv1:Below w.heap.size w W1:=by rw[hW1];exact zb.alloc zl _
 clear hW1;obtain⟨b1,hb1⟩:∃b1,b1=w.heap.size:=⟨_,rfl⟩
 rw[←hb1] at hB1 ⊢;have x0:=hB1.cell 3 rfl;have x1:=hB1.cell 4 rfl;have x2:=hB1.cell 5 rfl;have hbl:=hB1.lt;have KT:=zh (fun(W:World)=>Ki x.m W);have KD:=zh (fun(W:World)=>Cp x.d W (by omega));have KS:=zh (fun(W:World)=>Cp x.s W (by omega));have hv2:Below w.heap.size w W1.drew:=hv1.drew;have lm:=Ji x.m;have ld:(Lib.itoa x.d).length≤9:=E4 (by omega) (by omega);have ls:(Lib.itoa x.s).length≤9:=E4 (by omega) (by omega);clear hB1 hv1 hb1 hd hs;generalize Db x.m=tm at *;generalize Lib.itoa x.d=td at *;generalize Lib.itoa x.s=ts at *;have s1:(9223372036854775807<tm.length+1)=False:=eq_false (by omega);have s2:(9223372036854775807<tm.length+1+td.length)=False:=eq_false (by omega);have s3:(9223372036854775807<tm.length+1+td.length+1)=False:=eq_false (by omega);have s4:(9223372036854775807<tm.length+1+td.length+1+ts.length)=False:=eq_false (by omega)
 go_region_held3 (fun w'=>w'.cell? ⟨b1,3,none⟩=some (.int .i64 x.m)∧w'.cell? ⟨b1,4,none⟩=some (.int .i64 x.d)∧w'.cell? ⟨b1,5,none⟩=some (.int .i64 x.s)) (go_keep)
  (first
   | ((go_at_call 88;(with_reducible refine(KT.out _).mono ?_);rintro e w3⟨rfl,hb3⟩;have hv3:=Ar hv2 hb3;have hl3:b1<w3.heap.size:=Nat.lt_of_lt_of_le hbl hb3.size;have d0:=(hb3.cell (p:=⟨b1,3,none⟩) hbl).trans x0;have d1:=(hb3.cell (p:=⟨b1,4,none⟩) hbl).trans x1;have d2:=(hb3.cell (p:=⟨b1,5,none⟩) hbl).trans x2))
   | ((go_at_call 52;(with_reducible refine(KD.out _).mono ?_);rintro e w4⟨rfl,hb4⟩;have hv4:=Ar hv3 hb4;have hl4:b1<w4.heap.size:=Nat.lt_of_lt_of_le hl3 hb4.size;have q0:=(hb4.cell (p:=⟨b1,3,none⟩) hl3).trans d0;have q1:=(hb4.cell (p:=⟨b1,4,none⟩) hl3).trans d1;have q2:=(hb4.cell (p:=⟨b1,5,none⟩) hl3).trans d2))
   | ((go_at_call 52;(with_reducible refine(KS.out _).mono ?_);rintro e w5⟨rfl,hb5⟩;have hv5:=Ar hv4 hb5;have p0:=(hb5.cell (p:=⟨b1,3,none⟩) hl4).trans q0;have p1:=(hb5.cell (p:=⟨b1,4,none⟩) hl4).trans q1;have p2:=(hb5.cell (p:=⟨b1,5,none⟩) hl4).trans q2)))
 go_wp2;go_ret
 have ht:(⟨tm.toArray⟩++⟨[32].toArray⟩++⟨td.toArray⟩++⟨[32].toArray⟩++⟨ts.toArray⟩:ByteArray)=⟨x.viewT.toArray⟩:=by
  rw[Ba,Ba,Ba,Ba,HV.out];simp
 refine⟨?_,hv5⟩
 show Ending.returned (.string (⟨tm.toArray⟩++⟨[32].toArray⟩++⟨td.toArray⟩++⟨[32].toArray⟩++⟨ts.toArray⟩))=_
 rw[ht]
def Iv(r:List UInt8×Nat)(w:World)(e:Ending)(w':World):Prop:=
 e=.returned (.tuple #[.string ⟨(if r.2=0 then r.1 else[]).toArray⟩,.int .i64 (r.2:Nat)])∧Below w.heap.size w w'
theorem zDq(base:Nat)(R:RL)(c:CP)(wa:Option Addr)(wcp n:Nat)(ws:List (List UInt8))(w:World)(h:Ex w base R c)(hr:Ac w wa (Ad ws))(hn:ws.length=n)(hn0:0<n)(hl:∀x∈ws,x.length≤100000) :
 Calls prog 41 #[.pointer (some ⟨R.cb,0,none⟩),.slice wa n wcp] w (Iv (c.tell ws) w):=by
 obtain⟨w0,r,rfl⟩:∃w0 r,ws=w0::r:=by
  cases ws with
  | nil=>simp at hn;omega
  | cons x r=>exact⟨x,r,rfl⟩
 obtain⟨b,off,rfl,hbl,hc⟩:=hr.at (by simp[Ad]);have c0:w.cell? ⟨b,off,none⟩=some (.string ⟨w0.toArray⟩):=hc 0 _ rfl;have hi0:(0:Int)<(n:Int):=by omega
 have HI:=zh h.inv;have HN:=zh hn;have HC:=zh hc;have HL:=zh hl;have HST:=zh h.states;obtain⟨rs,hr0⟩:=h.ref;have HR:=zh (fun(W:World) (hb:Below w.heap.size w W)=>hr0.below hb);have q1:=hr0.cells.2.1;clear h hr0 hr hn hc hl
 by_cases hn1:n=1
 ·subst hn1
  obtain rfl:r=[]:=by
   have h2:=HN.out;simpa using h2
  by_cases hA:w0=[99,114,101,119]
  ·subst hA
   have HS:Hid (c.tell [[99,114,101,119]]=(Db (c.crewN:Nat),0)):=by unfold Hid CP.tell;rw[if_pos ⟨rfl,rfl⟩]
   have KC:=zh (zDk R rs c w (HR.out w zb) HI.out.dom (Ai HI.out.plan).2.2.2);generalize ((c.crewN:Nat):Int)=cr at *;have KT:=zh (fun W:World=>Ki cr W);go_enter func41,ntmps41;go_wp2_with fail;refine KC.out.mono ?_;rintro e w2⟨rfl,hb2⟩;go_wp2_with fail;refine(KT.out w2).mono ?_;rintro e w3⟨rfl,hb3⟩;go_wp2;go_ret2;unfold Iv;rw[HS.out];exact⟨rfl,Ar hb2 hb3⟩
  by_cases hB:w0=[116,105,109,101]
  ·subst hB
   have HS:Hid (c.tell [[116,105,109,101]]=(Lib.itoa (c.time:Nat),0)):=by unfold Hid CP.tell;rw[if_neg (by simp),if_pos ⟨rfl,rfl⟩]
   have ht:=HI.out.time;have KT:=zh (Cp (c.time:Int) w (by omega));clear hA;go_enter func41,ntmps41;go_wp2_with fail;refine KT.out.mono ?_;rintro e w3⟨rfl,hb3⟩;go_wp2;go_ret2;unfold Iv;rw[HS.out];exact⟨rfl,hb3⟩
  have HS:Hid (c.tell [w0]=([],1)):=by unfold Hid CP.tell;rw[if_neg (fun h=>hA h.2),if_neg (fun h=>hB h.2),if_neg (by simp)]
  have g1:(w0==[99,114,101,119])=false:=by simpa using hA
  have g2:(w0==[116,105,109,101])=false:=by simpa using hB
  clear hA hB;go_enter func41,ntmps41;go_wp2;go_ret2;unfold Iv;rw[HS.out];exact⟨rfl,Below.refl _ _⟩
 by_cases hn2:n=2
 rotate_left
 ·have HS:Hid (c.tell (w0::r)=([],1)):=by unfold Hid CP.tell;rw[HN.out,if_neg (fun h=>hn1 h.1),if_neg (fun h=>hn1 h.1),if_neg (fun h=>hn2 h.1)]
  have e1:((n:Int)==1)=false:=by simp;omega
  have e2:((n:Int)==2)=false:=by simp;omega
  have e3:((n:Int) != 2)=true:=by simp;omega
  clear hn1 hn2 hi0;go_enter func41,ntmps41;go_wp2;go_ret2;unfold Iv;rw[HS.out];exact⟨rfl,Below.refl _ _⟩
 subst hn2;clear hn1
 obtain⟨w1,rfl⟩:∃w1,r=[w1]:=by
  have h2:=HN.out
  match r,h2 with
  | [x],_=>exact⟨x,rfl⟩
 have c1:w.cell? ⟨b,off+1,none⟩=some (.string ⟨w1.toArray⟩):=HC.out 1 _ rfl;have hl1:w1.length≤100000:=HL.out w1 (by simp)
 by_cases ha:Tm w0=true
 rotate_left
 ·have HS:Hid (c.tell [w0,w1]=([],1)):=by unfold Hid CP.tell;rw[if_neg (by simp),if_neg (by simp),if_neg (fun h=>ha h.2)]
  have hx:¬(w0=[115,116,97,116,101]∨w0=[118,105,101,119]∨w0=[104,105,115,116,111,114,121]∨w0=[116,111,116,97,108]):=by simpa[Tm] using ha
  rw[not_or,not_or,not_or] at hx;obtain⟨x1,x2,x3,x4⟩:=hx;have g1:(w0==[115,116,97,116,101])=false:=by simpa using x1
  have g2:(w0==[118,105,101,119])=false:=by simpa using x2
  have g3:(w0==[104,105,115,116,111,114,121])=false:=by simpa using x3
  have g4:(w0==[116,111,116,97,108])=false:=by simpa using x4
  clear x1 x2 x3 x4 ha hi0 c1;go_enter func41,ntmps41;go_wp2;go_ret2;unfold Iv;rw[HS.out];exact⟨rfl,Below.refl _ _⟩
 have HS0:Hid (c.tell [w0,w1]=(match Cl w1 with|none=>([],1)|some n=>c.tellN w0 n)):=by
  unfold Hid CP.tell;rw[if_neg (by simp),if_neg (by simp),if_pos ⟨rfl,ha⟩];rfl
 have KN:=zh (D8 w1 w hl1);have hask:w0=[115,116,97,116,101]∨w0=[118,105,101,119]∨w0=[104,105,115,116,111,114,121]∨w0=[116,111,116,97,108]:=by simpa[Tm] using ha
 cases hn1:Cl w1 with
 | none=>
  have HS:Hid (c.tell [w0,w1]=([],1)):=by unfold Hid;rw[HS0.out,hn1]
  have e2:Aw w1=false:=by unfold Aw;rw[hn1];rfl
  rw[e2] at KN;clear e2 hn1 ha HS0
  rcases hask with rfl|rfl|rfl|rfl
  all_goals
   go_enter func41,ntmps41;go_wp2_with fail;refine KN.out.mono ?_;rintro e w2⟨rfl,rfl⟩;go_wp2;go_ret2;unfold Iv;rw[HS.out];exact⟨rfl,Below.refl _ _⟩
 | some n=>
  have HS:Hid (c.tell [w0,w1]=c.tellN w0 n):=by unfold Hid;rw[HS0.out,hn1]
  have e2:Aw w1=true:=by unfold Aw;rw[hn1];rfl
  have e3:Ah w1=n:=by unfold Ah;rw[hn1];rfl
  rw[e2,e3] at KN;have KS:=zh (Su R rs c n w (HR.out w zb) HST.out);have KA:=zh (Yk R rs c n w (HR.out w zb) HST.out);have hon:=HI.out.on n;have hle:=zGr c n;clear e2 e3 hn1 ha HS0 q1
  rcases hask with rfl|hask
  ·have HS2:Hid (c.tell [[115,116,97,116,101],w1]=(if c.stT n=[] then Oh else c.stT n,0)):=by unfold Hid;rw[HS.out];rfl
   clear HS KA hon hle;generalize c.stT n=t at *
   by_cases ht:t=[]
   ·subst ht
    go_enter func41,ntmps41;go_wp2_with fail;refine KN.out.mono ?_;rintro e w2⟨rfl,rfl⟩;go_wp2_with fail;refine KS.out.mono ?_;rintro e w3⟨rfl,hb3⟩;go_wp2;go_ret2;unfold Iv;rw[HS2.out];exact⟨rfl,hb3⟩
   ·have hb:(t==[])=false:=by simpa using ht
    rw[if_neg ht] at HS2;clear ht;go_enter func41,ntmps41;go_wp2_with fail;refine KN.out.mono ?_;rintro e w2⟨rfl,rfl⟩;go_wp2_with fail;refine KS.out.mono ?_;rintro e w3⟨rfl,hb3⟩;go_wp2;go_ret2;unfold Iv;rw[HS2.out];exact⟨rfl,hb3⟩
  have HS2:Hid (c.tell [w0,w1]=(if w0=[118,105,101,119] then(c.on n).1.viewT else if w0=[104,105,115,116,111,114,121] then Fb (c.on n).1.h else Lib.itoa (Dr (c.on n).1.h).sum,(c.on n).2)):=by
   unfold Hid;rw[HS.out,CP.tellN]
   rcases hask with rfl|rfl|rfl<;>rfl
  unfold zBf at KA;clear HS KS;generalize c.on n=q at *;obtain⟨x,k⟩:=q;dsimp only at hon hle HS2 KA
  by_cases hk:k=0
  rotate_left
  ·have hk1:decide ((0:Int)<((k:Nat):Int))=true:=decide_eq_true (by omega)
   have hkn:decide (0<k)=true:=decide_eq_true (by omega);have HK:=zh hk;clear hon hle hk
   rcases hask with rfl|rfl|rfl
   all_goals
    go_enter func41,ntmps41;go_wp2_with fail;refine KN.out.mono ?_;rintro e w2⟨rfl,rfl⟩;go_wp2_with fail;refine KA.out.mono ?_;rintro e w3⟨j,la,lc,rfl,hrow,hb3⟩;clear hrow;go_wp2;go_ret2;unfold Iv;rw[HS2.out];refine⟨?_,hb3.alloc hb3.size _⟩;rw[if_neg HK.out]
    rfl
  subst hk;obtain⟨m1,m2,m3,m4,m5⟩:=hon;have KV:=zh (fun(j:Int) (la:Option Addr) (lc:Nat) (W:World)=>Qm j x la x.h.length lc W m2 m3);have KH:=zh (fun(la:Option Addr) (lc:Nat) (W:World) (hW:Ac W la (Av x.h))=>K8 la x.h.length lc x.h W rfl hW (by omega) m4);have hsb:=fun k=>Io m4 k
  have hs16:=hsb 16;rw[List.take_of_length_le (by rw[Gb];exact Nat.le_refl _)] at hs16;rw[X5 m4] at hsb HS2 hs16;have KL:=zh (fun(la:Option Addr) (lc:Nat) (W:World) (hW:Ac W la (Av x.h))=>Zb la x.h.length lc x.h W rfl hW (by omega) hsb);generalize (Gc x.h 16).sum=sm at *;have KG:=zh (fun W:World=>Il sm W (by omega));obtain⟨hl,hhl⟩:∃hl,hl=x.h.length:=⟨_,rfl⟩
  rw[←hhl] at KA KV KH KL;clear m1 m2 m3 m4 m5 hsb hs16 hle hhl
  rcases hask with rfl|rfl|rfl
  ·rw[if_pos rfl] at HS2
   clear KH KL KG;go_enter func41,ntmps41;go_wp2_with fail;refine KN.out.mono ?_;rintro e w2⟨rfl,rfl⟩;go_wp2_with fail;refine KA.out.mono ?_;rintro e w3⟨j,la,lc,rfl,hrow,hb3⟩;have d0:=(hb3.cell (p:=⟨b,off,none⟩) hbl).trans c0;have hbl3:b<w3.heap.size:=Nat.lt_of_lt_of_le hbl hb3.size;have hal:=hb3.alloc hb3.size (.cells #[.int .i64 j,.int .i64 x.st,.int .i64 x.val,.int .i64 x.m,.int .i64 x.d,.int .i64 x.s,.slice la hl lc] 99);clear hrow c0 hb3;go_wp2_with fail;refine(KV.out _ _ _ _).mono ?_;rintro e w4⟨rfl,hb4⟩;go_wp2;go_ret2;unfold Iv;rw[HS2.out];exact⟨rfl,Ar hal hb4⟩
  ·rw[if_neg (by decide),if_pos rfl] at HS2
   clear KV KL KG;go_enter func41,ntmps41;go_wp2_with fail;refine KN.out.mono ?_;rintro e w2⟨rfl,rfl⟩;go_wp2_with fail;refine KA.out.mono ?_;rintro e w3⟨j,la,lc,rfl,hrow,hb3⟩;have d0:=(hb3.cell (p:=⟨b,off,none⟩) hbl).trans c0;have hbl3:b<w3.heap.size:=Nat.lt_of_lt_of_le hbl hb3.size;have hal:=hb3.alloc hb3.size (.cells #[.int .i64 j,.int .i64 x.st,.int .i64 x.val,.int .i64 x.m,.int .i64 x.d,.int .i64 x.s,.slice la hl lc] 99);have KH3:=zh (KH.out la lc _ (hrow.below (zb.alloc zl (.cells #[.int .i64 j,.int .i64 x.st,.int .i64 x.val,.int .i64 x.m,.int .i64 x.d,.int .i64 x.s,.slice la hl lc] 99))));clear hrow c0 hb3 KH;go_wp2_with fail;refine KH3.out.mono ?_;rintro e w4⟨rfl,hb4⟩;go_wp2;go_ret2;unfold Iv;rw[HS2.out];exact⟨rfl,Ar hal hb4⟩
  ·rw[if_neg (by decide),if_neg (by decide)] at HS2
   clear KV KH;go_enter func41,ntmps41;go_wp2_with fail;refine KN.out.mono ?_;rintro e w2⟨rfl,rfl⟩;go_wp2_with fail;refine KA.out.mono ?_;rintro e w3⟨j,la,lc,rfl,hrow,hb3⟩;have d0:=(hb3.cell (p:=⟨b,off,none⟩) hbl).trans c0;have hbl3:b<w3.heap.size:=Nat.lt_of_lt_of_le hbl hb3.size;have hal:=hb3.alloc hb3.size (.cells #[.int .i64 j,.int .i64 x.st,.int .i64 x.val,.int .i64 x.m,.int .i64 x.d,.int .i64 x.s,.slice la hl lc] 99);have KL3:=zh (KL.out la lc _ (hrow.below (zb.alloc zl (.cells #[.int .i64 j,.int .i64 x.st,.int .i64 x.val,.int .i64 x.m,.int .i64 x.d,.int .i64 x.s,.slice la hl lc] 99))));clear hrow c0 hb3 KL;go_wp2_with fail;refine KL3.out.mono ?_;rintro e w4⟨rfl,hb4⟩;go_wp2_with fail;refine(KG.out w4).mono ?_;rintro e w5⟨rfl,hb5⟩;go_wp2;go_ret2;unfold Iv;rw[HS2.out];exact⟨rfl,Ar (Ar hal hb4) hb5⟩
structure RYL where
 yb:Nat
 R:RL
 T:Nat
structure Bk(w:World)(base:Nat)(Z:RYL)(y:YP):Prop where
 blk:Af w Z.yb 44 #[.pointer (some ⟨Z.R.cb,0,none⟩),.pointer (some ⟨Z.T,0,none⟩)]
 ref:Ex w base Z.R y.c
 tape:D4 w Z.T y.d
theorem Bk.below{w w':World}{base:Nat}{Z:RYL}{y:YP}(h:Bk w base Z y)(hb:Below w.heap.size w w'):Bk w' base Z y:=⟨h.blk.kept hb,h.ref.below hb,Af.kept h.tape hb⟩
theorem Bk.weak{w:World}{base base':Nat}{Z:RYL}{y:YP}(h:Bk w base Z y)(hb:base'≤base):Bk w base' Z y:=⟨h.blk,h.ref.weak hb,h.tape⟩
theorem Ex.typed{S:Nat→Prop}{w w':World}{base:Nat}{R:RL}{c:CP}(h:Ex w base R c)(hf:Fr S w w')(hs:∀k,k<w.heap.size→S k→∃cur fz t,w.heap[k]?=some (.cells cur t fz)∧t≠3∧t≠146∧t≠94∧t≠99):Ex w' base R c:=by
 have no:∀k cur t,w.heap[k]?=some (.cells cur t (0,0))→t=3∨t=146∨t=94∨t=99→¬S k:=fun k cur t hk ht hS=>by
  obtain⟨cur',fz,t',h1,n1,n2,n3,n4⟩:=hs k (Array.getElem?_eq_some_iff.1 hk).1 hS;rw[h1] at hk;injection hk with hk;injection hk with _ e;subst e
  rcases ht with e|e|e|e
  ·exact n1 e
  ·exact n2 e
  ·exact n3 e
  ·exact n4 e
 obtain⟨rs,hr⟩:=h.ref;obtain⟨cur,hn⟩:=hr.nblk;refine⟨⟨rs,hr.kept hf (no _ _ _ hr.blk (Or.inr (Or.inr (Or.inl rfl)))) (no _ _ _ hn (Or.inr (Or.inr (Or.inr rfl)))) (fun b off e=>?_) (fun k cur hk=>no _ _ _ hk (Or.inr (Or.inl rfl)))⟩,h.inv,h.low,fun b off e=>?_⟩
 ·obtain⟨cur,hk⟩:=h.pat b off e
  exact no _ _ _ hk (Or.inl rfl)
 ·obtain⟨cur,hk⟩:=h.pat b off e
  exact⟨cur,(hf.block b hk.lt (no _ _ _ hk (Or.inl rfl))).trans hk⟩
theorem Ex.taped{w w':World}{base T:Nat}{R:RL}{c:CP}{d:Dk}(h:Ex w base R c)(ht:D4 w T d)(hf:Fr (fun k=>k=T) w w'):Ex w' base R c:=
 h.typed hf (fun k _ e=>by subst e;exact⟨_,_,_,ht,by decide,by decide,by decide,by decide⟩)
theorem Bk.taped{w w':World}{base:Nat}{Z:RYL}{y:YP}{d:Dk}(h:Bk w base Z y)(hf:Fr (fun k=>k=Z.T) w w')(ht:D4 w' Z.T d):Bk w' base Z ⟨y.c,d⟩:=
 ⟨(hf.block Z.yb h.blk.lt (fun e=>by
   have h1:=h.blk;rw[e,Af,show w.heap[Z.T]?=_ from h.tape] at h1
   injection h1 with h1;injection h1 with _ e2;revert e2;decide)).trans h.blk,h.ref.taped h.tape hf,ht⟩
def RDo(base:Nat)(Z:RYL)(r:YP×List UInt8×Nat)(w:World)(e:Ending)(w':World):Prop:=
 ∃Z':RYL,Z'.T=Z.T∧e=.returned (.tuple #[.pointer (some ⟨Z'.yb,0,none⟩),.string ⟨r.2.1.toArray⟩,.int .i64 (r.2.2:Nat)])∧Bk w' base Z' r.1∧Fr (fun k=>k=Z.T) w w'
theorem zIy(base:Nat)(Z:RYL)(y:YP)(line:List UInt8)(w:World)(h:Bk w base Z y)(hl:line.length≤100000)(hbl:y.d.b.length≤262144)(hc : -9223372036854775808≤y.d.cut∧y.d.cut≤9223372036854775807) :
 Calls prog 11 #[.pointer (some ⟨Z.yb,0,none⟩),.string ⟨line.toArray⟩] w (RDo base Z (y.doF line) w):=by
 have KS:=zh (Fv line 32 w hl);rw[show((32:UInt8).toNat:Int)=32 from rfl] at KS;obtain⟨ws,hws⟩:∃ws,ws=Az 32 line:=⟨_,rfl⟩
 have hne:ws≠[]:=by rw[hws];exact F7 32 line
 have hpc:∀x∈ws,x.length≤100000:=fun x hx=>by rw[hws] at hx;exact Nat.le_trans (Cz 32 line x hx) hl
 have HD:Hid (y.doF line=if Bz (ws.getD 0 [])≠(ws.length:Int)-1 then(y,if (y.c.tell ws).2=0 then(y.c.tell ws).1 else[],(y.c.tell ws).2)
  else if (y.c.change ws).2.2≠0 then(y,[],(y.c.change ws).2.2)
  else if (apF y.d line).2≠0 then(⟨y.c,(apF y.d line).1⟩,[],(apF y.d line).2)
  else(⟨(y.c.change ws).1,(apF y.d line).1⟩,(y.c.change ws).2.1,0)):=by unfold Hid;rw[YP.doF,←hws]
 have hlen:ws.length≤100001:=by rw[hws];exact Nat.le_trans (Ch 32 line) (by omega)
 rw[←hws] at KS;have HY:=zh h;have HPC:=zh hpc;have HNE:=zh hne;have KW:=zh (fun W:World=>Sv (ws.getD 0 []) W);clear hws hpc hne h;go_enter func11,ntmps11;go_wp2_with fail;refine KS.out.mono ?_;rintro e w1⟨ao,n,co,rfl,hr1,hn1,_,hb1⟩;have hn0:0<n:=by rw[←hn1];exact List.length_pos_iff.2 HNE.out
 have HR1:=zh hr1
 obtain⟨b,off,rfl,hbl1,hcc⟩:=hr1.at (by
  obtain⟨x,r,e⟩:=List.exists_cons_of_ne_nil HNE.out
  rw[e];simp[Ad])
 have q0:w1.cell? ⟨b,off,none⟩=some (.string ⟨(ws.getD 0 []).toArray⟩):=hcc 0 _ (by
  obtain⟨x,r,e⟩:=List.exists_cons_of_ne_nil HNE.out
  rw[e];rfl)
 rw[hn1] at HD;obtain⟨w0,hw0⟩:∃w0,w0=ws.getD 0 []:=⟨_,rfl⟩
 have HW0:=zh hw0.symm;rw[←hw0] at q0 HD KW;have hY1:=HY.out.below hb1;have y0:=hY1.blk.cell 0 rfl;have HY1:=zh hY1;have HB1:=zh hb1;have HN:=zh hn1;have hi0:(0:Int)<(n:Int):=by omega
 have hi1:(1:Int)≤(n:Int):=by omega
 have hwr:IntKind.i64.wrap ((n:Int)-1)=(n:Int)-1:=IntWalk.i64_in _ (by have:=hlen;omega);clear hr1 hcc hn1 hY1 hb1 KS HNE hw0;go_wp2_with fail;refine(KW.out w1).mono ?_;rintro e _⟨rfl,rfl⟩
 by_cases hd:Bz w0=(n:Int)-1
 ·have HD2:Hid (y.doF line=if (y.c.change ws).2.2≠0 then(y,[],(y.c.change ws).2.2)
   else if (apF y.d line).2≠0 then(⟨y.c,(apF y.d line).1⟩,[],(apF y.d line).2)
   else(⟨(y.c.change ws).1,(apF y.d line).1⟩,(y.c.change ws).2.1,0)):=by unfold Hid;rw[HD.out,if_neg (fun h=>h hd)]
  have hdb:(Bz w0==(n:Int)-1)=true:=beq_iff_eq.2 hd;have hdn:(Bz w0 != (n:Int)-1)=false:=by rw[bne,hdb];rfl
  have HDW:=zh hd;clear hd HD KW;generalize hk:Bz w0=kk at *;have HKW:=zh hk;clear hk;obtain⟨rs,hr⟩:=HY1.out.ref.ref;have hpat:∀b off,Z.R.pa=some ⟨b,off,none⟩→∃cur,Af w1 b 3 cur:=HY1.out.ref.pat
  have hrl:0<rs.length:=by
   have h1:=HY1.out.ref.inv.dom;have h2:=Ai HY1.out.ref.inv.plan
   obtain⟨i,hi⟩:∃i,i∈y.c.plan:=by
    cases hp:y.c.plan with
    | nil=>rw[hp] at h2;simp at h2
    | cons x r=>exact⟨x,by simp⟩
   have h3:(y.c.f i).isSome=true:=by rw[h1 i];simpa using hi
   have h4:=hr.dom i h3
   cases rs with
   | nil=>simp at h4
   | cons a b=>simp
  have KC:=zh (zDj Z.R rs y.c w1 hr hrl (fun b off e=>by
   obtain⟨cur,hk⟩:=hpat b off e
   exact hk.lt))
  have HPT:=zh hpat;clear hr hrl hpat;go_wp2_with fail;refine KC.out.mono ?_;rintro e w2⟨R2,rfl,hR2,hpa2,hcb2,hnb2,hb2⟩;have HZ:=zh HY1.out.ref.size
  have hC2:Ex w2 base R2 y.c:=⟨⟨rs,hR2⟩,HY1.out.ref.inv,⟨Nat.le_trans HZ.out hcb2,Nat.le_trans HZ.out hnb2⟩,fun b off e=>by
   obtain⟨cur,hk⟩:=HPT.out b off (hpa2▸e)
   exact⟨cur,hk.kept hb2⟩⟩
  have hrow2:=HR1.out.below hb2;have KCH:=zh (Ql base R2 y.c (some ⟨b,off,none⟩) co n ws w2 hC2 hrow2 HN.out HPC.out (by rw[HW0.out];exact HKW.out.trans HDW.out) hn0)
  have HOW:=zh (show ∀j,R2.own j→w1.heap.size≤j from fun j hj=>by
   rcases hj with rfl|rfl
   ·exact hcb2
   ·exact hnb2)
  have HB2:=zh hb2;clear KC hR2 hC2 hrow2 hpa2 hcb2 hnb2 hb2 q0 y0;go_wp2_with fail;refine KCH.out.mono ?_;rintro e w3⟨p,t,rfl,hF3,hok⟩;have hv3:Below w1.heap.size w1 w3:=hF3.base HB2.out HOW.out;have HV3:=zh (Ar HB1.out hv3);have hY3:=HY1.out.below hv3;have y1:=hY3.blk.cell 1 rfl;have HY3:=zh hY3
  by_cases hz:(y.c.change ws).2.2=0
  ·obtain⟨rfl,R3,rfl,hC3,hown3⟩:=hok hz
   have HC3:=zh hC3;have KA:=zh (Sy Z.T y.d line w3 hY3.tape hl hbl hc);have HD3:Hid (y.doF line=if (apF y.d line).2≠0 then(⟨y.c,(apF y.d line).1⟩,[],(apF y.d line).2) else(⟨(y.c.change ws).1,(apF y.d line).1⟩,(y.c.change ws).2.1,0)):=by unfold Hid;rw[HD2.out,if_neg (fun h=>h hz)]
   rw[hz];clear hz hok hC3 hown3 hY3 HD2;generalize apF y.d line=q at *;obtain⟨q1,q2⟩:=q;dsimp only at KA HD3;go_wp2_with fail;refine KA.out.mono ?_;rintro e w4⟨rfl,hD4,hg4⟩;have hF4:Fr (fun k=>k=Z.T) w3 w4:=Fr.grown hg4 (fun k e=>(Option.some.inj e).symm);have HF4:=zh (Fr.trans (Fr.of HV3.out) hF4);have hY4:=HY3.out.taped hF4 hD4;have z1:=hY4.blk.cell 1 rfl;have HY4:=zh hY4;have HC4:=zh (HC3.out.taped HY3.out.tape hF4);have HD4:=zh hD4;clear hF4 hg4 hY4 hD4 y1
   by_cases ha:q2=0
   ·subst ha
    go_wp2;go_ret3;have hal:Below w4.heap.size w4 (w4.alloc (.cells #[.pointer (some ⟨R3.cb,0,none⟩),.pointer (some ⟨Z.T,0,none⟩)] 44)):=zb.alloc zl _;unfold RDo;rw[HD3.out,if_neg (fun h=>h rfl)];exact⟨⟨w4.heap.size,R3,Z.T⟩,rfl,rfl,⟨Af.new w4 _ _,HC4.out.below hal,Af.kept HD4.out hal⟩,HF4.out.off hal⟩
   ·have hq1:decide ((0:Int)<((q2:Nat):Int))=true:=decide_eq_true (by omega)
    have hq2:decide (0<q2)=true:=decide_eq_true (by omega);have HZ:=zh ha;clear ha;go_wp2;go_ret3;unfold RDo;rw[HD3.out,if_pos HZ.out];exact⟨Z,rfl,rfl,HY4.out,HF4.out⟩
  ·have HZ:=zh hz
   have HD3:Hid (y.doF line=(y,[],(y.c.change ws).2.2)):=by unfold Hid;rw[HD2.out,if_pos hz]
   clear hok HD2 hY3;generalize (y.c.change ws).2.2=q2 at *;have hq0:((q2:Nat):Int)≠0:=by omega
   have hq3:(((q2:Nat):Int)==0)=false:=beq_eq_false_iff_ne.2 hq0;have hq4:(q2==0)=false:=beq_eq_false_iff_ne.2 hz;have hq1:decide ((0:Int)<((q2:Nat):Int))=true:=decide_eq_true (by omega);have hq2:decide (0<q2)=true:=decide_eq_true (by omega);clear hz hq0;go_wp2;go_ret3;unfold RDo;rw[HD3.out];exact⟨Z,rfl,rfl,HY3.out,Fr.of HV3.out⟩
 ·have HD2:Hid (y.doF line=(y,if (y.c.tell ws).2=0 then(y.c.tell ws).1 else[],(y.c.tell ws).2)):=by unfold Hid;rw[HD.out,if_pos hd]
  have hdb:(Bz w0==(n:Int)-1)=false:=beq_eq_false_iff_ne.2 hd;have hdn:(Bz w0 != (n:Int)-1)=true:=by rw[bne,hdb];rfl
  clear hd HD KW;generalize hk:Bz w0=kk at *;clear hk;have KT:=zh (zDq base Z.R y.c (some ⟨b,off,none⟩) co n ws w1 HY1.out.ref HR1.out HN.out hn0 HPC.out);unfold Iv at KT;generalize (if (y.c.tell ws).2=0 then(y.c.tell ws).1 else[])=ta at *;clear q0;go_wp2_with fail;refine KT.out.mono ?_;rintro e w2⟨rfl,hb2⟩;have hv2:=Ar HB1.out hb2;go_wp2;go_ret3;unfold RDo;rw[HD2.out];exact⟨Z,rfl,rfl,HY.out.below hv2,Fr.of hv2⟩
theorem Ot(T:Nat)(d:Dk)(w:World)(hT:D4 w T d) :
 Calls prog 9 #[.pointer (some ⟨T,0,none⟩)] w fun e w'=>∃Z:RYL,Z.T=T∧e=.returned (.pointer (some ⟨Z.yb,0,none⟩))∧Bk w' w.heap.size Z ⟨Bp,d⟩∧w.heap.size≤Z.yb∧Below w.heap.size w w':=by
 have hb0:Below w.heap.size w (w.alloc (.cells #[.int .i64 1,.int .i64 2,.int .i64 3] 3)):=zb.alloc zl _;have KN:=zh (zB3 (some ⟨w.heap.size,0,none⟩) 3 3 [1,2,3] _ rfl (Ac.new_at w (Aa [1,2,3]) 3 _ rfl) (by decide +kernel));have HP:=zh (Af.new w 3 #[.int .i64 1,.int .i64 2,.int .i64 3]);have HB0:=zh hb0;have HT:=zh (Af.kept hT hb0);clear hb0 hT;go_enter func9,ntmps9;go_wp2_with fail;refine KN.out.mono ?_;rintro e w1⟨R,rs,rfl,hR,hpa,hcb,hnb,hb1⟩;have hal:Below w1.heap.size w1 (w1.alloc (.cells #[.int .i64 0,.int .i64 (-1)] 55)):=zb.alloc zl _;have hv2:=Ar (Ar HB0.out hb1) hal
 have hC:Ex (w1.alloc (.cells #[.int .i64 0,.int .i64 (-1)] 55)) w.heap.size R Bp:=⟨⟨rs,hR.below hal⟩,O7,⟨Nat.le_trans HB0.out.size hcb,Nat.le_trans HB0.out.size hnb⟩,fun b off e=>by
  rw[hpa] at e;injection e with e;injection e with e1 e2;subst e1
  exact⟨_,(Af.kept HP.out hb1).kept hal⟩⟩
 have hT2:D4 (w1.alloc (.cells #[.int .i64 0,.int .i64 (-1)] 55)) T d:=Af.kept (Af.kept HT.out hb1) hal;have HC:=zh hC;have HT2:=zh hT2;have HV:=zh hv2;clear hal hv2 hC hT2 hR hpa hcb hnb hb1 KN;go_wp2;go_ret;generalize hW:w1.alloc (.cells #[.int .i64 0,.int .i64 (-1)] 55)=W at *;have hsz:w1.heap.size+1=W.heap.size:=by rw[←hW];simp
 have hal2:=(Below.refl W.heap.size W).alloc zl (.cells #[.pointer (some ⟨R.cb,0,none⟩),.pointer (some ⟨T,0,none⟩)] 44);rw[hsz];exact⟨⟨W.heap.size,R,T⟩,rfl,rfl,⟨Af.new _ _ _,HC.out.below hal2,Af.kept HT2.out hal2⟩,HV.out.size,Ar HV.out hal2⟩
theorem Wk(T:Nat)(s:Dk)(l:List (List UInt8))(hP:H5 s.b l)(w:World)(hT:D4 w T s)(hs:s.b.length≤100000) :
 Calls prog 63 #[.pointer (some ⟨T,0,none⟩)] w fun e w'=>∃v,e=.returned v∧w'.ownsRow w.heap.size 9 1 v l.length (Ad l)∧D4 w' T ⟨s.b.take (l.flatMap A7).length,false,-1⟩∧w.grownBy w' (some T):=by
 obtain⟨b,o,c⟩:=s;dsimp only at hP hs;have KR:=zh (Wo b l hP w hs)
 have hle:(l.flatMap A7).length≤b.length:=by
  obtain⟨_,r,h,_⟩:=hP;rw[h];simp
 generalize (l.flatMap A7).length=m at *;have hK:Af w T 31 #[.string ⟨b.toArray⟩,.bool o,.int .i64 c]:=hT;have c0:=hK.cell 0 rfl;have HK:=zh hK;have hm2:(m:Int)≤(b.length:Int):=by omega
 clear hT hK hP;go_enter func63,ntmps63;go_wp2_with fail;refine KR.out.mono ?_;rintro e w1⟨v,rfl,hown,hb1⟩;have hK1:=HK.out.kept hb1;have hlt:=HK.out.lt;have k0:=hK1.cell 0 rfl;have k1:=hK1.cell 1 rfl;have k2:=hK1.cell 2 rfl;have f0:=hK1.frozen 0;have f1:=hK1.frozen 1;have f2:=hK1.frozen 2;have HK1:=zh hK1;have HO:=zh hown;have HB:=zh hb1;clear hK1 hown hb1 c0 KR;go_wp2;go_ret;have g1:=((HK1.out.set 0 (.string ⟨(b.take m).toArray⟩)).set 1 (.bool false)).set 2 (.int .i64 (-1));refine⟨v,rfl,?_,by simpa[D4,M7] using g1,?_⟩
 ·exact ownsRow_setCell_below (ownsRow_setCell_below (ownsRow_setCell_below HO.out hlt _) hlt _) hlt _
 ·exact Dm (Dm (Dm (Bw HB.out _) (Br _ _ _ _)) (Br _ _ _ _)) (Br _ _ _ _)
def zJc(base T:Nat)(s:Dk)(l:List (List UInt8))(w:World)(e:Ending)(w':World):Prop:=
 ((Bp.linesF 0 l).2.1=0∧∃Z:RYL,Z.T=T∧e=.returned (.tuple #[.pointer (some ⟨Z.yb,0,none⟩),.agg #[.int .i64 0,.int .i64 (-1)]])∧Bk w' base Z ⟨(Bp.linesF 0 l).1,⟨s.b.take (l.flatMap A7).length,false,-1⟩⟩∧Fr (fun k=>k=T) w w') ∨
 ((Bp.linesF 0 l).2.1≠0∧e=.returned (.tuple #[.pointer none,.agg #[.int .i64 ((Bp.linesF 0 l).2.1:Nat),.int .i64 (Bp.linesF 0 l).2.2]])∧Fr (fun k=>k=T) w w')
theorem Bk.taken{w:World}{base yb T:Nat}{R R3:RL}{c3:CP}{d:Dk}(hb:Af w yb 44 #[.pointer (some ⟨R.cb,0,none⟩),.pointer (some ⟨T,0,none⟩)])(hC:Ex w base R3 c3)(hT:D4 w T d):Bk (w.setCell ⟨yb,0,none⟩ (.pointer (some ⟨R3.cb,0,none⟩))) base ⟨yb,R3,T⟩ ⟨c3,d⟩:=by
 have hF:Fr (fun k=>k=yb) w (w.setCell ⟨yb,0,none⟩ (.pointer (some ⟨R3.cb,0,none⟩))):=(Fr.refl (fun k=>k=yb) w).setCell (p:=⟨yb,0,none⟩) (Or.inl rfl) _
 have hne:T≠yb:=fun e=>by
  subst e;rw[Af,show w.heap[T]?=_ from hT] at hb;injection hb with h1;injection h1 with _ e2;revert e2;decide
 exact⟨by have:=hb.set 0 (.pointer (some ⟨R3.cb,0,none⟩));simpa using this,hC.typed hF (fun k _ e=>by subst e;exact⟨_,_,_,hb,by decide,by decide,by decide,by decide⟩),(hF.block T (Af.lt hT) hne).trans hT⟩
theorem An.apart{w:World}{R:RL}{rs:List RN}{c:CP}(h:An w R rs c){b:Nat}{t:TypeId}{cs:Array Value}(hb:Af w b t cs)(h1:t≠94)(h2:t≠99):¬R.own b:=by
 obtain⟨cur,hn⟩:=h.nblk;rintro(rfl|rfl)
 ·rw[Af,show w.heap[R.cb]?=_ from h.blk] at hb
  injection hb with e;injection e with _ e2;exact h1 e2.symm
 ·rw[Af,show w.heap[R.nb]?=_ from hn] at hb
  injection hb with e;injection e with _ e2;exact h2 e2.symm
theorem zDm(base T:Nat)(s:Dk)(l:List (List UInt8))(w:World)(hbz:base≤w.heap.size)(hT:D4 w T s)(hP:H5 s.b l)(hs:s.b.length≤100000)(hm:l.length≤300000) :
 Calls prog 22 #[.pointer (some ⟨T,0,none⟩)] w (zJc base T s l w):=by
 obtain⟨W0,hW0⟩:∃W,W=w.alloc (.cells #[.int .i64 0,.int .i64 0] 55):=⟨_,rfl⟩
 obtain⟨tb,htb⟩:∃tb,tb=w.heap.size:=⟨_,rfl⟩
 have hb0:Below w.heap.size w W0:=by rw[hW0];exact zb.alloc zl _
 have hTl:=Af.lt hT;have F0:Af W0 tb 55 #[.int .i64 0,.int .i64 0]:=by rw[hW0,htb];exact Af.new w _ _
 have hT0:D4 W0 T s:=Af.kept hT hb0;have KR:=zh (Wk T s l hP W0 hT0 hs);have HL4:=zh (show ∀x∈l,x.length≤4000 from hP.1);have HB0:=zh hb0;have HF0:=zh F0;have HTB:=zh (show w.heap.size≤tb from by omega);have HTT:=zh (show tb≠T from by omega);have HBZ:=zh hbz;have HW0:=zh hW0.symm;have c0:=F0.cell 0 rfl;have c1:=F0.cell 1 rfl;clear hb0 F0 hT0 hP hTl hT hW0 hbz hs;go_enter func22,ntmps22;go_upto_region 1 with(fail);rw[←htb,HW0.out];clear htb;go_wp2_with fail;refine KR.out.mono ?_;rintro e w1⟨v,rfl,hown,hT1,hg1⟩;obtain⟨ra,rc,rfl⟩:=Aj hown;have F1:Af w1 tb 55 #[.int .i64 0,.int .i64 0]:=(hg1.block tb HF0.out.lt (fun e=>HTT.out (Option.some.inj e))).trans HF0.out;have HFR:=zh (show Fr (fun k=>k=T) w w1 from Fr.trans (Fr.of HB0.out) (Fr.grown hg1 (fun k e=>(Option.some.inj e).symm)));have HF1:=zh F1;have HRW:=zh ((Ac.owned hown).1);have KY:=zh (Ot T _ w1 hT1);obtain⟨d,hd⟩:∃d:Dk,d=⟨s.b.take (l.flatMap A7).length,false,-1⟩:=⟨_,rfl⟩
 rw[←hd] at KY hT1;have HD:=zh hd;have HT1:=zh hT1;clear hown hT1 hg1 F1 KR c0 c1 hd;go_wp2_with fail;refine KY.out.mono ?_;rintro e w2⟨⟨yb,R0,T'⟩,hT',rfl,hY2,hyb,hb2⟩;dsimp only at hT' hyb ⊢;subst hT';have HY2:=zh hY2;have HB2:=zh hb2;have HYB:=zh hyb;obtain⟨nl,hnl⟩:∃nl,nl=l.length:=⟨_,rfl⟩
 have HNL:=zh hnl;have HLEN:=zh (show l.length≤300000 from hm);rw[←hnl] at hm ⊢;have hl0:(Bp.linesF 0 (l.take 0)).2.1=0:=rfl;have HHL0:=zh hl0;have HI0:Hid (Bk w2 w1.heap.size ⟨yb,R0,T'⟩ ⟨(Bp.linesF 0 (l.take 0)).1,d⟩):=by unfold Hid;rw[List.take_zero];exact HY2.out
 clear hnl hY2 hb2 hyb KY hl0;go_wp2;go_loopw [6] (fun i wr=>∃(k:Nat) (R:RL),k≤nl∧i=.int .i64 k∧Hid ((Bp.linesF 0 (l.take k)).2.1=0)∧Hid (Bk wr w1.heap.size ⟨yb,R,T'⟩ ⟨(Bp.linesF 0 (l.take k)).1,d⟩)∧Below w1.heap.size w1 wr) (fun i _=>nl-(intOf i).toNat)
 case atStart=>exact⟨0,R0,Nat.zero_le _,rfl,HHL0,HI0,HB2.out⟩
 case round=>
  clear HHL0 HI0 HY2 HB2;obtain⟨k,R,hk,rfl,hok,hY,hb⟩:=hrel
  by_cases hlt:k<nl
  ·have hkl:k<l.length:=by rw[←HNL.out];exact hlt
   obtain⟨lb,lo,rfl,hlb,ct⟩:=Vn (HRW.out.below hb) k hkl;have hl4:l[k].length≤4000:=HL4.out _ (List.getElem_mem hkl);have HNX:=zh (fun h2=>Qe l Bp k hkl hok.out h2);have HSP:=zh (fun h2=>Lv l Bp 0 k hkl hok.out h2);have hi0:(0:Int)≤(k:Int):=by omega
   have hi1:(k:Int)<(nl:Int):=by omega
   clear hok;generalize (Bp.linesF 0 (l.take k)).1=c at *;generalize l[k]=line at *;have KS:=zh (Fv line 32 wr (by omega));rw[show((32:UInt8).toNat:Int)=32 from rfl] at KS;obtain⟨ws,hws⟩:∃ws,ws=Az 32 line:=⟨_,rfl⟩
   have hne:ws≠[]:=by rw[hws];exact F7 32 line
   have hpc:∀x∈ws,x.length≤100000:=fun x hx=>by rw[hws] at hx;exact Nat.le_trans (Cz 32 line x hx) (by omega)
   have hlen:ws.length≤100001:=by rw[hws];exact Nat.le_trans (Ch 32 line) (by omega)
   have HDF:Hid (c.lineF line=if Bz (ws.getD 0 [])≠(ws.length:Int)-1 then(c,1) else((c.change ws).1,(c.change ws).2.2)):=by unfold Hid;rw[CP.lineF,←hws]
   rw[←hws] at KS;have HPC:=zh hpc;have HNE:=zh hne;have HBW:=zh hb;clear hws hpc hne hb;go_wp2_with fail;refine KS.out.mono ?_;rintro e w3⟨ao,n,co,rfl,hr3,hn3,_,hb3⟩;have hn0:0<n:=by rw[←hn3];exact List.length_pos_iff.2 HNE.out
   have HR3:=zh hr3
   obtain⟨b,off,rfl,hbl,hcc⟩:=hr3.at (by
    obtain⟨x,r,e⟩:=List.exists_cons_of_ne_nil HNE.out
    rw[e];simp[Ad])
   have q0:w3.cell? ⟨b,off,none⟩=some (.string ⟨(ws.getD 0 []).toArray⟩):=hcc 0 _ (by
    obtain⟨x,r,e⟩:=List.exists_cons_of_ne_nil HNE.out
    rw[e];rfl)
   rw[hn3] at HDF hlen;obtain⟨w0,hw0⟩:∃w0,w0=ws.getD 0 []:=⟨_,rfl⟩
   have HW3:=zh hw0.symm;rw[←hw0] at q0 HDF;have KW:=zh (fun W:World=>Sv w0 W);have HY3:=zh (hY.out.below hb3);have y0:=HY3.out.blk.cell 0 rfl;have HB3:=zh (Ar HBW.out hb3);have HN:=zh hn3;have ji0:(0:Int)<(n:Int):=by omega
   have ji1:(1:Int)≤(n:Int):=by omega
   have hwr:IntKind.i64.wrap ((n:Int)-1)=(n:Int)-1:=IntWalk.i64_in _ (by omega);have hF3:=HF1.out.kept HB3.out;have f0:=hF3.cell 0 rfl;have f1:=hF3.cell 1 rfl;have z0:=hF3.frozen 0;have z1:=hF3.frozen 1;have HFF:=zh hF3;clear hr3 hcc hn3 hb3 KS HNE hw0 hY ct hF3 HBW;go_wp2_with fail;refine(KW.out w3).mono ?_;rintro e _⟨rfl,rfl⟩
   by_cases hd:Bz w0=(n:Int)-1
   ·have HL3:Hid (c.lineF line=((c.change ws).1,(c.change ws).2.2)):=by unfold Hid;rw[HDF.out,if_neg (fun h=>h hd)]
    have hdb:(Bz w0==(n:Int)-1)=true:=beq_iff_eq.2 hd;have HDW:=zh hd;clear hd HDF KW f0 f1 z0 z1;generalize hk2:Bz w0=kk at *;have HKW:=zh hk2;clear hk2;have KCH:=zh (Ql w1.heap.size R c (some ⟨b,off,none⟩) co n ws w3 HY3.out.ref HR3.out HN.out HPC.out (by rw[HW3.out];exact HKW.out.trans HDW.out) hn0);clear q0;go_wp2_with fail;refine KCH.out.mono ?_;rintro e w4⟨p,t,rfl,hF4,hok4⟩;obtain⟨rs,hr⟩:=HY3.out.ref.ref;have hB4:Af w4 yb 44 #[.pointer (some ⟨R.cb,0,none⟩),.pointer (some ⟨T',0,none⟩)]:=(hF4.block yb HY3.out.blk.lt (hr.apart HY3.out.blk (by decide) (by decide))).trans HY3.out.blk;have hT4:D4 w4 T' d:=(hF4.block T' (Af.lt HY3.out.tape) (hr.apart HY3.out.tape (by decide) (by decide))).trans HY3.out.tape;have hQ4:Af w4 tb 55 #[.int .i64 0,.int .i64 0]:=(hF4.block tb HFF.out.lt (hr.apart HFF.out (by decide) (by decide))).trans HFF.out
    have hv4:Below w1.heap.size w1 w4:=hF4.base HB3.out (fun j hj=>by
     rcases hj with rfl|rfl
     ·exact HY3.out.ref.low.1
     ·exact HY3.out.ref.low.2)
    have hV5:Below w1.heap.size w1 (w4.setCell ⟨yb,0,none⟩ (.pointer p)):=hv4.setCell HYB.out _;have y4:=hB4.cell 0 rfl;have yf:=hB4.frozen 0;have HV5:=zh hV5
    by_cases hz:(c.change ws).2.2=0
    ·obtain⟨rfl,R3,rfl,hC3,hown3⟩:=hok4 hz
     have HN2:=zh (HNX.out (by rw[HL3.out];exact hz));have HC3:Hid (Bk (w4.setCell ⟨yb,0,none⟩ (.pointer (some ⟨R3.cb,0,none⟩))) w1.heap.size ⟨yb,R3,T'⟩ ⟨(Bp.linesF 0 (l.take (k+1))).1,d⟩):=by unfold Hid;rw[HN2.out,HL3.out];exact Bk.taken hB4 hC3 hT4
     have HO3:Hid ((Bp.linesF 0 (l.take (k+1))).2.1=0):=by unfold Hid;rw[HN2.out]
     rw[hz];clear hz hok4 hC3 hown3 hF4 hB4 hT4 hQ4 hv4 hV5 KCH HNX HSP hr;go_wp2;go_roundw
     case rel=>exact⟨k+1,R3,by omega,by go_num,HO3,HC3,HV5.out⟩
     case measure=>simp[intOf];omega
    ·have HZ:=zh hz
     have HS3:=zh (HSP.out (by rw[HL3.out];exact hz));rw[HL3.out] at HS3;dsimp only at HS3
     have hty:tb≠yb:=fun e=>by
      subst e;rw[Af,show w4.heap[tb]?=_ from hB4] at hQ4;injection hQ4 with e1;injection e1 with _ e2;revert e2;decide
     have hQ5:Af (w4.setCell ⟨yb,0,none⟩ (.pointer p)) tb 55 #[.int .i64 0,.int .i64 0]:=hQ4.setOther 0 _ hty;generalize (c.change ws).2.2=q2 at *;have hq1:decide ((0:Int)<((q2:Nat):Int))=true:=decide_eq_true (by omega);have hq2:decide (0<q2)=true:=decide_eq_true (by omega);clear hz hok4 hF4 hB4 hT4 hQ4 hv4 hV5 KCH HNX HSP hr;go_upto_region 11 with(fail);generalize w4.setCell ⟨yb,0,none⟩ (.pointer p)=w5 at *;have f0:=hQ5.cell 0 rfl;have f1:=hQ5.cell 1 rfl;have z0:=hQ5.frozen 0;have z1:=hQ5.frozen 1;go_wp2;refine bodyPost_ret (v:=.tuple #[.pointer none,.agg #[.int .i64 (q2:Nat),.int .i64 k]]) (by simp[results,results22,go_sem,f0,f1]) rfl ?_;refine Or.inr ⟨by rw[HS3.out];exact HZ.out,by rw[HS3.out];simp,?_⟩;exact((HFR.out.off HV5.out).setCell (p:=⟨tb,0,none⟩) (Or.inr HTB.out) _).setCell (p:=⟨tb,1,none⟩) (Or.inr HTB.out) _
   ·have HL3:Hid (c.lineF line=(c,1)):=by unfold Hid;rw[HDF.out,if_pos hd]
    have hdb:(Bz w0==(n:Int)-1)=false:=beq_eq_false_iff_ne.2 hd;have HS3:=zh (HSP.out (by rw[HL3.out];exact Nat.one_ne_zero));rw[HL3.out] at HS3;dsimp only at HS3;clear hd HDF HNX HSP KW;generalize hk2:Bz w0=kk at *;clear hk2;go_wp2;refine bodyPost_ret (v:=.tuple #[.pointer none,.agg #[.int .i64 1,.int .i64 k]]) (by simp[results,results22,go_sem,f0,f1]) rfl ?_;refine Or.inr ⟨by rw[HS3.out];exact Nat.one_ne_zero,by rw[HS3.out];simp,?_⟩;exact((HFR.out.off HB3.out).setCell (p:=⟨tb,0,none⟩) (Or.inr HTB.out) _).setCell (p:=⟨tb,1,none⟩) (Or.inr HTB.out) _
  ·obtain rfl:k=nl:=by omega
   have HH:Hid (Bp.linesF 0 (l.take k)=Bp.linesF 0 l):=by unfold Hid;rw[HNL.out,List.take_length]
   have HY3:=zh hY.out;have HB:=zh hb;have hF3:=HF1.out.kept hb;have f0:=hF3.cell 0 rfl;have f1:=hF3.cell 1 rfl;have z0:=hF3.frozen 0;have z1:=hF3.frozen 1;have hlt3:=hF3.lt;clear hY hb hF3;go_wp2_with fail;refine(Jz _).mono ?_;rintro e w5⟨rfl,hb5⟩;obtain⟨g0,g1,y0,y1,_⟩:=Qd hb5 hlt3 f0 f1 z0 z1;go_wp2;refine bodyPost_ret (v:=.tuple #[.pointer (some ⟨yb,0,none⟩),.agg #[.int .i64 0,.int .i64 (-1)]]) (by simp[results,results22,go_sem,g0,g1]) rfl ?_;have hFS:Fr (fun j=>j=tb) w5 ((w5.setCell ⟨tb,0,none⟩ (.int .i64 0)).setCell ⟨tb,1,none⟩ (.int .i64 (-1))):=((Fr.refl (fun j=>j=tb) w5).setCell (p:=⟨tb,0,none⟩) (Or.inl rfl) _).setCell (p:=⟨tb,1,none⟩) (Or.inl rfl) _;have hQ5:=(HF1.out.kept HB.out).kept hb5;have hY5:=HY3.out.below hb5;refine Or.inl ⟨by rw[←HH.out];exact hok.out,⟨yb,R,T'⟩,rfl,rfl,?_,Fr.then (HFR.out.off (Ar HB.out hb5)) hFS (fun i e=>Or.inr (by rw[e];exact HTB.out))⟩;rw[←HH.out,←HD.out];have hsz:=HFR.out.size
   have hyt:yb≠tb:=fun e=>by
    subst e;rw[Af,show w5.heap[yb]?=_ from hY5.blk] at hQ5;injection hQ5 with e1;injection e1 with _ e2;revert e2;decide
   have htt:T'≠tb:=fun e=>HTT.out e.symm
   exact Bk.weak ⟨(hFS.block yb hY5.blk.lt hyt).trans hY5.blk,hY5.ref.typed hFS (fun j _ e=>by subst e;exact⟨_,_,_,hQ5,by decide,by decide,by decide,by decide⟩),(hFS.block T' (Af.lt hY5.tape) htt).trans hY5.tape⟩ (Nat.le_trans HBZ.out hsz)
theorem An.names{w:World}{R:RL}{rs:List RN}{c:CP}(h:An w R rs c)(hI:Ce c):rs.map RN.n=Bq c.plan:=by
 refine Pk h.rise (Kr _) (fun x=>?_);have h1:=Ai hI.plan;rw[Hs h1.2.2.2 x];have h2:=hI.dom x
 constructor
 ·intro hx
  obtain⟨r,hr,rfl⟩:=List.mem_map.1 hx;obtain⟨i,hi,rfl⟩:=List.mem_iff_getElem.1 hr;have h3:=(h.each i hi).1;rw[h3] at h2;simpa using h2.symm
 ·intro hx
  exact h.dom x (by rw[h2];simpa using hx)
theorem zDr(base:Nat)(Z:RYL)(y:YP)(w:World)(h:Bk w base Z y) :
 Calls prog 14 #[.pointer (some ⟨Z.yb,0,none⟩)] w fun e w'=>e=.returned (.string ⟨(y.c.textY).toArray⟩)∧Below w.heap.size w w':=by
 have c0:=h.blk.cell 0 rfl;have hI:=h.ref.inv;have ht:=hI.time;obtain⟨rs,hr⟩:=h.ref.ref;have c1:=hr.cells.2.1;have KI:=zh (Cp (y.c.time:Int) w (by omega));have hit:(Lib.itoa (y.c.time:Int)).length≤9:=E4 (by omega) (by omega);have HB:=zh (fun(W:World) (hb:Below w.heap.size w W)=>(h.blk.kept hb).cell 0 rfl);have HR:=zh (fun(W:World) (hb:Below w.heap.size w W)=>hr.below hb);have HI:=zh hI;have hnm:=hr.names hI;clear h hr hI;generalize y.c=c at *;obtain⟨nn,hnn⟩:∃nn,nn=rs.length:=⟨_,rfl⟩
 have HNN:=zh hnn;have hns:(Bq c.plan).length=nn:=by rw[←hnm,List.length_map,hnn]
 have HNE:Hid (∀k (hk:k<rs.length) (hk2:k<(Bq c.plan).length),(Bq c.plan)[k]=rs[k].n):=fun k hk hk2=>by
  simp only[←hnm,List.getElem_map]
 have HTX:Hid (c.textK 0=[116,105,109,101,32]++(Lib.itoa (c.time:Int)++[10])):=by unfold Hid CP.textK;simp
 have HTY:Hid (c.textY=c.textK nn):=by unfold Hid CP.textK CP.textY;rw[←hns,List.take_length]
 have HNM:=zh (fun k (hk:k<(Bq c.plan).length)=>Nm c k hk);have HLN:=zh (fun k (hk:k≤(Bq c.plan).length)=>Ka HI.out k hk);have HMM:=zh (fun x (hx:x∈Bq c.plan)=>(Ai HI.out.plan).2.2.2 x ((Hs (Ai HI.out.plan).2.2.2 x).1 hx));have hn16:=J3 c.plan;have HNS:=zh hns;have HST:=zh (show ∀i x,c.f i=some x→x.st=0∨x.st=1∨x.st=2 from fun i x hf=>(HI.out.node i x hf).st);obtain⟨t0,ht0⟩:∃t0,t0=Lib.itoa (c.time:Int):=⟨_,rfl⟩
 rw[←ht0] at KI hit HTX;have s1:(9223372036854775807<5+t0.length)=False:=eq_false (by omega);have s2:(9223372036854775807<5+t0.length+1)=False:=eq_false (by omega);clear ht0 hnn hnm;rw[hns] at hn16;clear hns;go_enter func14,ntmps14;go_wp2_with fail;refine KI.out.mono ?_;rintro e w1⟨rfl,hb1⟩;have HB1:=zh hb1;clear KI c0 c1 hb1;go_wp2;go_loopw [3,4] (fun s3 i wr=>∃k:Nat,k≤nn∧i=.int .i64 k∧s3=.string ⟨(c.textK k).toArray⟩∧Below w.heap.size w wr) (fun _ i _=>nn-(intOf i).toNat)
 case atStart=>exact⟨0,Nat.zero_le _,rfl,congrArg Value.string (by rw[HTX.out];apply ByteArray.ext;apply Array.ext';simp),HB1.out⟩
 case round=>
  obtain⟨k,hk,rfl,rfl,hb⟩:=hrel;have hr:=HR.out wr hb;obtain⟨e0,e1,e2,e3,e4⟩:=hr.cells;rw[←HNN.out] at e4;have h0:=HB.out wr hb
  by_cases hlt:k<nn
  ·have hkl:k<rs.length:=by rw[←HNN.out];exact hlt
   have hkn:k<(Bq c.plan).length:=by rw[HNS.out];exact hlt
   obtain⟨a0,a1,a2,a3,a4,a5,a6⟩:=hr.at k hkl;obtain⟨hf,hrow⟩:=hr.each k hkl;have hnx:=HNM.out k hkn;have hlk:=HLN.out k (by omega);have hnb:=HMM.out _ (List.getElem_mem hkn);rw[HNE.out k hkl hkn] at hnx hnb;have hrw:Ac wr rs[k].la (Av rs[k].x.h):=(Ac.owned hrow).1;clear hrow;generalize rs[k]=r at *;have hon:(c.on r.n)=if r.x.st=2 then(r.x,0) else(NP0,11):=by unfold CP.on;rw[hf]
   have hx2:=HST.out _ _ hf;have hnd:=HI.out.on r.n;have HNX:=zh hnx;have lv0:=Pn HI.out r.n;have ls:=Wt c r.n;have HND:Hid (c.nodeT r.n=Lib.itoa r.n++32::(c.stT r.n++((if (c.on r.n).2=0 then 32::((c.on r.n).1.viewT++32::Fb (c.on r.n).1.h) else[])++[10]))):=rfl;rw[hon] at HND hnd lv0;have HRW:=zh hrw;simp only[Aq,decide_eq_true_eq] at hnb;have li:(Lib.itoa r.n).length≤9:=E4 (by omega) (by omega);have hi0:(0:Int)≤(k:Int):=by omega
   have hi1:(k:Int)<(nn:Int):=by omega
   have KD:=zh (fun W:World=>Cp r.n W (by omega));have KS:=zh (fun(W:World) (hb:Below w.heap.size w W)=>Su Z.R rs c r.n W (HR.out W hb) HST.out);have HBB:=zh hb;have HX2:=zh hx2;obtain⟨W1,hW1⟩:∃W,W=wr.alloc (.cells #[.int .i64 r.n,.int .i64 r.x.st,.int .i64 r.x.val,.int .i64 r.x.m,.int .i64 r.x.d,.int .i64 r.x.s,.slice r.la r.x.h.length r.lc] 99):=⟨_,rfl⟩
   obtain⟨nb,hnb0⟩:∃nb,nb=wr.heap.size:=⟨_,rfl⟩
   have hA:Below wr.heap.size wr W1:=by rw[hW1];exact zb.alloc zl _
   have B1:Af W1 nb 99 #[.int .i64 r.n,.int .i64 r.x.st,.int .i64 r.x.val,.int .i64 r.x.m,.int .i64 r.x.d,.int .i64 r.x.s,.slice r.la r.x.h.length r.lc]:=by rw[hW1,hnb0];exact Af.new wr _ _
   have hv1:=Ar hb hA;have HW1:=zh hW1.symm;have HNB:=zh hnb0.symm;have HRW1:=zh (HRW.out.below hA);obtain⟨tk,htk⟩:∃tk,tk=c.textK k:=⟨_,rfl⟩
   rw[←htk] at hlk HNX;rw[←htk];clear htk hf hrw hnx hr hb hA hW1 hnb0 hx2 hon;go_upto_region 6 with(fail);rw[HNB.out,HW1.out];clear a0 a1 a2 a3 a4 a5 a6 e0 e1 e2 e3 e4 h0;obtain⟨tst,htst⟩:∃t,t=c.stT r.n:=⟨_,rfl⟩
   rw[←htst] at ls KS HND;obtain⟨ti,hti⟩:∃t,t=Lib.itoa r.n:=⟨_,rfl⟩
   rw[←hti] at li KD HND;clear htst hti;have s3:(9223372036854775807<tk.length+ti.length)=False:=eq_false (by omega);have s4:(9223372036854775807<tk.length+ti.length+1)=False:=eq_false (by omega);have s5:(9223372036854775807<tk.length+ti.length+1+tst.length)=False:=eq_false (by omega);have b0:=B1.cell 0 rfl;have y1:=HB.out W1 hv1;have hD1:Below W1.heap.size W1 W1.drew:=Ab zb 1;have hvd:=Ar hv1 hD1;have BD:=B1.kept hD1
   go_region_held3 (fun w'=>w'.cell? ⟨nb,0,none⟩=some (.int .i64 r.n)∧w'.cell? ⟨Z.yb,0,none⟩=some (.pointer (some ⟨Z.R.cb,0,none⟩))) (go_keep)
    (first
     | (go_at_call 52;(with_reducible refine(KD.out _).mono ?_);rintro e w3⟨rfl,hb3⟩;have hv3:=Ar hvd hb3;have B3:=Af.kept BD hb3;have b0:=Af.cell B3 0 rfl;have y1:=HB.out w3 hv3;have k3:=KS.out w3 hv3)
     | (go_at_call 53;(with_reducible refine k3.mono ?_);rintro e w4⟨rfl,hb4⟩;have hv4:=Ar hv3 hb4;have B4:=Af.kept B3 hb4;have b0:=Af.cell B4 0 rfl;have y1:=HB.out w4 hv4))
   have s6:(9223372036854775807<tk.length+ti.length+1+tst.length+1)=False:=eq_false (by omega);have hv4':=hv4;have HV4:=zh hv4
   by_cases hst:r.x.st=2
   ·have hsb:(r.x.st==2)=true:=beq_iff_eq.2 hst
    rw[if_pos hst] at HND hnd lv0;obtain⟨m1,m2,m3,m4,m5⟩:=hnd;dsimp only at m2 m3 m4 m5 lv0 HND;rw[if_pos rfl] at HND;have lh:=Mh m4;obtain⟨hl,hhl⟩:∃hl,hl=r.x.h.length:=⟨_,rfl⟩
    have KV:=zh (fun(W:World)=>Qm r.n r.x r.la hl r.lc W m2 m3);have KH:=zh (fun(W:World) (hb:Below W1.heap.size W1 W)=>K8 r.la hl r.lc r.x.h W hhl.symm (HRW1.out.below hb) (by omega) m4);rw[←hhl] at B4;have x0:=B4.cell 0 rfl;have x1:=B4.cell 1 rfl;have x2:=B4.cell 2 rfl;have x3:=B4.cell 3 rfl;have x4:=B4.cell 4 rfl;have x5:=B4.cell 5 rfl;have x6:=B4.cell 6 rfl;generalize Fb r.x.h=th at *;generalize r.x.viewT=tv at *;have s7:(9223372036854775807<tk.length+ti.length+1+tst.length+1+tv.length)=False:=eq_false (by omega);have s8:(9223372036854775807<tk.length+ti.length+1+tst.length+1+tv.length+1)=False:=eq_false (by omega);have s9:(9223372036854775807<tk.length+ti.length+1+tst.length+1+tv.length+1+th.length)=False:=eq_false (by omega);have s10:(9223372036854775807<tk.length+ti.length+1+tst.length+1+tv.length+1+th.length+1)=False:=eq_false (by omega);have hx4:Below W1.heap.size W1 w4:=Ar (Ar hD1 hb3) hb4;have HX4:=zh hx4;have hD4:Below w4.heap.size w4 w4.drew:=Ab zb 1;have BD4:=B4.kept hD4;have hx5:=Ar hx4 hD4;have hv5:=Ar hv4 hD4;clear m1 m2 m3 m4 m5 hst hhl y1;go_upto_region 8 with(fail)
    go_region_held3 (fun w'=>w'.cell? ⟨nb,0,none⟩=some (.int .i64 r.n)∧w'.cell? ⟨nb,1,none⟩=some (.int .i64 r.x.st)∧w'.cell? ⟨nb,2,none⟩=some (.int .i64 r.x.val)∧w'.cell? ⟨nb,3,none⟩=some (.int .i64 r.x.m)∧w'.cell? ⟨nb,4,none⟩=some (.int .i64 r.x.d)∧w'.cell? ⟨nb,5,none⟩=some (.int .i64 r.x.s)∧w'.cell? ⟨nb,6,none⟩=some (.slice r.la hl r.lc)) (go_keep)
     (first
      | (go_at_call 54;(with_reducible refine(KV.out _).mono ?_);rintro e w6⟨rfl,hb6⟩;have hv6:=Ar hv5 hb6;have hx6:=Ar hx5 hb6;have B6:=Af.kept BD4 hb6;have x0:=Af.cell B6 0 rfl;have x1:=Af.cell B6 1 rfl;have x2:=Af.cell B6 2 rfl;have x3:=Af.cell B6 3 rfl;have x4:=Af.cell B6 4 rfl;have x5:=Af.cell B6 5 rfl;have x6:=Af.cell B6 6 rfl;have k6:=KH.out w6 hx6)
      | (go_at_call 55;(with_reducible refine k6.mono ?_);rintro e w7⟨rfl,hb7⟩;have hv7:=Ar hv6 hb7;have B7:=Af.kept B6 hb7;have x0:=Af.cell B7 0 rfl;have x1:=Af.cell B7 1 rfl;have x2:=Af.cell B7 2 rfl;have x3:=Af.cell B7 3 rfl;have x4:=Af.cell B7 4 rfl;have x5:=Af.cell B7 5 rfl;have x6:=Af.cell B7 6 rfl))
    have HV7:=zh hv7;go_wp2;go_roundw
    case rel=>exact⟨k+1,by omega,by go_num,congrArg Value.string (by rw[HNX.out,HND.out];apply ByteArray.ext;apply Array.ext';simp),HV7.out⟩
    case measure=>simp[intOf];omega
   ·have hsb:(r.x.st==2)=false:=beq_eq_false_iff_ne.2 hst
    rw[if_neg hst] at HND;rw[if_neg (by decide)] at HND;have x1:=B4.cell 1 rfl;clear hst y1;go_wp2;go_roundw
    case rel=>exact⟨k+1,by omega,by go_num,congrArg Value.string (by rw[HNX.out,HND.out];apply ByteArray.ext;apply Array.ext';simp),HV4.out⟩
    case measure=>simp[intOf];omega
  ·obtain rfl:k=nn:=by omega
   rw[←HTY.out];have HBB:=zh hb;clear hb hr;go_wp2;go_ret;exact⟨rfl,HBB.out⟩
end Go.Proofs.YtppfkokfnoeopaaGreatDoor
namespace Go.Proofs.YtppfkokfnoeopaaGreatDoor
open Go.RowKit Go.Maps
theorem Bk.typed{S:Nat→Prop}{w w':World}{base:Nat}{Z:RYL}{y:YP}(h:Bk w base Z y)(hf:Fr S w w')(hs:∀k,k<w.heap.size→S k→∃cur fz t,w.heap[k]?=some (.cells cur t fz)∧(t≠3∧t≠146∧t≠94∧t≠99)∧t≠44∧t≠31):Bk w' base Z y:=by
 have no:∀k t cs,Af w k t cs→t=44∨t=31→¬S k:=fun k t cs hk ht hS=>by
  obtain⟨cur',fz,t',h1,_,n1,n2⟩:=hs k hk.lt hS;rw[Af,h1] at hk;injection hk with hk;injection hk with _ e;subst e;exact ht.elim n1 n2
 exact⟨(hf.block _ h.blk.lt (no _ _ _ h.blk (Or.inl rfl))).trans h.blk,h.ref.typed hf (fun k hk hS=>by
  obtain⟨cur,fz,t,h1,h2,_⟩:=hs k hk hS
  exact⟨cur,fz,t,h1,h2⟩),(hf.block _ (Af.lt h.tape) (no _ _ _ h.tape (Or.inr rfl))).trans h.tape⟩
theorem Bk.yard{w w':World}{base b2:Nat}{Z:RYL}{Y:YL}{y z:YP}(h:Bk w base Z z)(hY:B8 w b2 Y y)(hf:Fr (Ju w Y) w w'):Bk w' base Z z:=
 h.typed hf (fun k _ hS=>by
  obtain⟨_,_,cur,fz,t,h1,h2⟩:=hY.owns hS;refine⟨cur,fz,t,h1,?_⟩
  rcases h2 with rfl|rfl|rfl<;>decide)
theorem O4(c:CP)(w:List (List UInt8)):(c.change w).2.2≤11:=by
 unfold CP.change
 split
 ·dsimp only
  unfold CP.planW
  split
  ·exact Nat.le_of_ble_eq_true rfl
  ·exact Sn _
 ·split
  ·unfold CP.slotW CP.slotF
   split
   ·exact Nat.le_of_ble_eq_true rfl
   ·dsimp only;split<;>exact Nat.le_of_ble_eq_true rfl
  ·split
   ·dsimp only
    unfold CP.setW
    split
    ·unfold CP.set
     split
     ·exact Nat.le_of_ble_eq_true rfl
     ·split<;>exact Nat.le_of_ble_eq_true rfl
    ·exact Nat.le_of_ble_eq_true rfl
   ·dsimp only
    unfold CP.oneW CP.turn CP.ask
    repeat(first|exact Nat.le_of_ble_eq_true rfl|split)
theorem Wu(c:CP)(w:List (List UInt8)):(c.tell w).2≤11:=by
 unfold CP.tell
 split
 ·exact Nat.le_of_ble_eq_true rfl
 ·split
  ·exact Nat.le_of_ble_eq_true rfl
  ·split
   ·split
    ·exact Nat.le_of_ble_eq_true rfl
    ·rename_i n _
     have:=zGr c n;unfold CP.tellN
     split
     ·dsimp only;omega
     ·split
      ·dsimp only;omega
      ·split
       ·dsimp only;omega
       ·exact Nat.le_of_ble_eq_true rfl
   ·exact Nat.le_of_ble_eq_true rfl
theorem Zh(s:Dk)(t:List UInt8):(apF s t).2≤11:=by
 unfold apF wrF
 repeat(first|exact Nat.le_of_ble_eq_true rfl|split)
theorem zFl(y:YP)(t:List UInt8):(y.doF t).2.2≤11:=by
 unfold YP.doF
 split
 ·exact Wu _ _
 ·split
  ·exact O4 _ _
  ·split
   ·exact Zh _ _
   ·exact Nat.le_of_ble_eq_true rfl
end Go.Proofs.YtppfkokfnoeopaaGreatDoor
