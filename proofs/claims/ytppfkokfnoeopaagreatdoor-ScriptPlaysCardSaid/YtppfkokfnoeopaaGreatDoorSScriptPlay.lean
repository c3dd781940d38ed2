/- A part of a proof. -/
import Derived.Test.YtppfkokfnoeopaaGreatDoorSYDo
import Derived.Test.YtppfkokfnoeopaaGreatDoorSClk
set_option maxRecDepth 400000
set_option maxHeartbeats 6400000
namespace Go.Proofs.YtppfkokfnoeopaaGreatDoor
open Go.RowKit Go.Proofs.Tryz
def Tq:List UInt8:=[99,117,116]
def Kf:List UInt8:=[97,103,97,105,110]
def Tu:List UInt8:=[109,105,100]
def Og:List UInt8:=[110,101,120,116]
def Ox:List UInt8:=[116,101,120,116]
noncomputable def Wm(b:List UInt8):List (List UInt8):=Classical.choose (Kx b.length b zl)
theorem Wn(b:List UInt8):H5 b (Wm b):=Classical.choose_spec (Kx b.length b zl)
theorem Pj{b:List UInt8}{l:List (List UInt8)}(h:H5 b l):Wm b=l:=Om _ _ _ (Wn b) h
def YP.cutP(y:YP)(w:List (List UInt8)):YP×List UInt8×Nat:=match Bi w with
 | some [n]=>(⟨y.c,(Gx y.d n).1⟩,okB,(Gx y.d n).2)
 | _=>(y,[],1)
noncomputable def YP.againP(y:YP)(w:List (List UInt8)):YP×List UInt8×Nat:=
 if w=[] then(⟨y.c,⟨(Wm y.d.b).flatMap A7,false,-1⟩⟩,okB,0) else(y,[],1)
def YP.midP(y:YP)(w:List (List UInt8)):YP×List UInt8×Nat:=match Bi w with
 | some (k::a::l)=>(y,Lib.itoa (E2 (a::l) k).1,(E2 (a::l) k).2.1)
 | _=>(y,[],1)
def Sb(w:List (List UInt8)):Option (List Int×Int×Int):=match w with
 | [a,b,c]=>(match J5 a,Cl b,Cl c with
  | some l,some n,some s=>some (l,n,s)
  | _,_,_=>none)
 | _=>none
def YP.nextP(y:YP)(w:List (List UInt8)):YP×List UInt8×Nat:=match Sb w with
 | some (l,n,s)=>(y,Lib.itoa (Dy l n s).1,(Dy l n s).2.1)
 | none=>(y,[],1)
def YP.textP(y:YP)(w:List (List UInt8)):YP×List UInt8×Nat:=if w=[] then(y,Lib.replaceAll y.c.textY [10] [59],0) else(y,[],1)
noncomputable def YP.play(y:YP)(line:List UInt8):YP×List UInt8×Nat:=
 if (Az 32 line).getD 0 []=Tq then y.cutP ((Az 32 line).drop 1)
 else if (Az 32 line).getD 0 []=Kf then y.againP ((Az 32 line).drop 1)
 else if (Az 32 line).getD 0 []=Tu then y.midP ((Az 32 line).drop 1)
 else if (Az 32 line).getD 0 []=Og then y.nextP ((Az 32 line).drop 1)
 else if (Az 32 line).getD 0 []=Ox then y.textP ((Az 32 line).drop 1)
 else y.doF line
def Ve(txt:Nat→List UInt8)(r:YP×List UInt8×Nat):List UInt8:=if r.2.2=0 then r.2.1 else txt r.2.2
noncomputable def YP.plays(txt:Nat→List UInt8)(y:YP):List (List UInt8)→List (List UInt8)
 | []=>[]
 | x::r=>Ve txt (y.play x)::(y.play x).1.plays txt r
noncomputable def YP.after(y:YP):List (List UInt8)→YP
 | []=>y
 | x::r=>(y.play x).1.after r
theorem Nj(txt:Nat→List UInt8):∀(l:List (List UInt8)) (y:YP) (x:List UInt8),y.plays txt (l++[x])=y.plays txt l++[Ve txt ((y.after l).play x)]
 | [],y,x=>rfl
 | a::r,y,x=>by rw[List.cons_append,YP.plays,YP.plays,YP.after,Nj txt r];rfl
theorem M6:∀(l:List (List UInt8)) (y:YP) (x:List UInt8),y.after (l++[x])=((y.after l).play x).1
 | [],y,x=>rfl
 | a::r,y,x=>by rw[List.cons_append,YP.after,YP.after,M6 r]
theorem Pg(txt:Nat→List UInt8):∀(l:List (List UInt8)) (y:YP),(y.plays txt l).length=l.length
 | [],y=>rfl
 | a::r,y=>by rw[YP.plays,List.length_cons,Pg txt r,List.length_cons]
theorem Fg.again{k:Nat}{y:YP}{dn:List (List UInt8)}(h:Fg k y dn):Fg (k+1) ⟨y.c,⟨(Wm y.d.b).flatMap A7,false,-1⟩⟩ dn:=by
 rw[Pj h.parse];refine⟨h.lens,by have:=h.many;omega,?_,by dsimp only;omega,Or.inl ⟨rfl,rfl⟩,h.run⟩;have:=Rr h.lens;have:=h.many;dsimp only;omega
theorem Fg.cutP{k:Nat}{y:YP}{dn:List (List UInt8)}(h:Fg k y dn)(n:Int)(hn:n≤9223372036854775807):Fg (k+1) ⟨y.c,(Gx y.d n).1⟩ dn:=by
 obtain⟨h1,h2,h3,h4,h5,h6⟩:=h.more;unfold Gx
 split
 ·exact⟨h1,h2,h3,h4,h5,h6⟩
 ·split
  ·exact⟨h1,h2,h3,h4,h5,h6⟩
  ·exact⟨h1,h2,h3,by dsimp only;omega,h5,h6⟩
theorem Oj:∀(l:List (List UInt8)) (acc xs:List Int),(∀x∈acc,-10000000<x∧x<10000000)→l.foldl Bv (some acc)=some xs→∀x∈xs,-10000000<x∧x<10000000
 | [],acc,xs,ha,h=>by simp at h;subst h;exact ha
 | t::r,acc,xs,ha,h=>by
  rw[List.foldl_cons] at h
  cases hx:Cl t with
  | none=>
   have e:Bv (some acc) t=none:=by simp[Bv,hx]
   rw[e,Jq] at h;cases h
  | some n=>
   have e:Bv (some acc) t=some (acc++[n]):=by simp[Bv,hx]
   rw[e] at h;refine Oj r _ _ (fun x hm=>?_) h
   rcases List.mem_append.1 hm with hm|hm
   ·exact ha x hm
   ·rw[List.mem_singleton.1 hm]
    exact((D7 t n).1 hx).2
theorem Ja{l:List (List UInt8)}{xs:List Int}(h:Bi l=some xs):∀x∈xs,-10000000<x∧x<10000000:=Oj l [] xs (by simp) h
theorem Fg.play{k:Nat}{y:YP}{dn:List (List UInt8)}(h:Fg k y dn)(hk:k≤100){t:List UInt8}(ht:t.length≤150):∃dn',Fg (k+1) (y.play t).1 dn':=by
 unfold YP.play
 split
 ·unfold YP.cutP
  split
  ·rename_i n hn
   exact⟨dn,h.cutP n (by have:=Ja hn n (by simp);omega)⟩
  ·exact⟨dn,h.more⟩
 split
 ·unfold YP.againP
  split
  ·exact⟨dn,h.again⟩
  ·exact⟨dn,h.more⟩
 split
 ·unfold YP.midP
  split<;>exact⟨dn,h.more⟩
 split
 ·unfold YP.nextP
  split<;>exact⟨dn,h.more⟩
 split
 ·unfold YP.textP
  split<;>exact⟨dn,h.more⟩
 exact⟨_,h.step hk ht⟩
theorem zBt:Fg 0 YP.new []:=zF8 (-1) (by omega)
def G5:List (List UInt8):=[[112,108,97,110,32,50,44,49],[115,101,116,32,49,32,53],[115,108,111,116,32,45],[115,108,111,116,32,45],[104,105,115,116,111,114,121,32,50],[116,111,116,97,108,32,49],[118,105,101,119,32,49],[109,105,100,32,49,32,51,32,57,32,52]]
noncomputable def YP.raws(y:YP):List (List UInt8)→List (List UInt8×Nat)
 | []=>[]
 | x::r=>(y.play x).2::(y.play x).1.raws r
theorem So(txt:Nat→List UInt8):∀(l:List (List UInt8)) (y:YP),y.plays txt l=(y.raws l).map fun r=>if r.2=0 then r.1 else txt r.2
 | [],y=>rfl
 | a::r,y=>by rw[YP.plays,YP.raws,So txt r];rfl
theorem U7:∀(l:List (List UInt8)) (y:YP) (x:List UInt8),y.raws (l++[x])=y.raws l++[((y.after l).play x).2]
 | [],y,x=>rfl
 | a::r,y,x=>by rw[List.cons_append,YP.raws,YP.raws,YP.after,U7 r];rfl
theorem zHf:Bt [3,9,4]=[3,4,9]:=by
 simp[Bt,List.mergeSort,List.MergeSort.Internal.splitInTwo]
theorem zC5:E2 [3,9,4] 1=(4,0,-1):=by
 have h:(Dc [3,9,4] 1).1=0:=by decide +kernel
 rw[E2,if_pos h];simp[Sa,zHf]
theorem zGh(y:YP):(y.play [109,105,100,32,49,32,51,32,57,32,52]).2=([52],0):=by
 have h1:Az 32 [109,105,100,32,49,32,51,32,57,32,52]=[[109,105,100],[49],[51],[57],[52]]:=by decide +kernel
 have h2:Bi [[49],[51],[57],[52]]=some [1,3,9,4]:=by decide +kernel
 unfold YP.play;rw[h1];rw[if_neg (by decide),if_neg (by decide),if_pos (by decide)]
 show(y.midP [[49],[51],[57],[52]]).2=_
 unfold YP.midP;rw[h2];dsimp only;rw[zC5]
 decide +kernel
theorem Z3:(YP.new.raws G5).drop 4=[([50,58,48,44,49,58,53],0),([53],0),([49,44,50,32,48,32,50],0),([52],0)]:=by
 have h1:(YP.new.raws (G5.take 7)).drop 4=[([50,58,48,44,49,58,53],0),([53],0),([49,44,50,32,48,32,50],0)]:=by decide +kernel
 have h2:G5=G5.take 7++[[109,105,100,32,49,32,51,32,57,32,52]]:=rfl;have h3:(YP.new.raws (G5.take 7)).length=7:=rfl;rw[h2,U7,zGh,List.drop_append_of_le_length (by rw[h3];omega),h1]
 rfl
theorem X0(txt:Nat→List UInt8):(YP.new.plays txt G5).drop 4=[[50,58,48,44,49,58,53],[53],[49,44,50,32,48,32,50],[52]]:=by
 rw[So,←List.map_drop,Z3];rfl
end Go.Proofs.YtppfkokfnoeopaaGreatDoor
namespace Go.Proofs.YtppfkokfnoeopaaGreatDoor
open Go.RowKit Go.Maps Go.Proofs.Tryz
def zJ8(ea:Nat→Addr)(l:List (List UInt8))(B:Nat)(e:Ending)(W B':World):Prop:=
 (∃xs v,Bi l=some xs∧e=.returned (.tuple #[v,.nilIface])∧B'.ownsRow B 3 1 v xs.length (Aa xs)∧Below B W B')∨(Bi l=none∧e=.returned (.tuple #[.slice none 0 0,Bm ea 1])∧Below B W B')
theorem Pm(ea:Nat→Addr)(a:Option Addr)(n cap:Nat)(l:List (List UInt8))(w:World)(hg:Bh w ea [1])(hT:Bf w)(hn:l.length=n)(hr:Ac w a (Ad l))(hl:∀x∈l,x.length≤1000000)(hc:n≤100000) :
 Calls prog 200 #[.slice a n cap] w fun e w'=>zJ8 ea l w.heap.size e w w':=by
 obtain⟨i0,hi,hz0,hz1,hz2⟩:=info_parts Ll;have hi':=zh hi;have hz0':=zh hz0;have hz1':=zh hz1;have hz2':=zh hz2;have KN:=zh (fun(W:World) (x:List UInt8) (hb:Below w.heap.size w W) (hx:x.length≤1000000)=>Ih x W (hT.below hb) (by omega));have HG:=zh (fun(W:World) (hb:Below w.heap.size w W)=>(hg.below hb).cell 1 (by simp));have HR:=zh hr;have HN:=zh hn;have HL:=zh hl;have HE:=zh (Ae ea (k:=1) (by decide));clear hi hz0 hz1 hz2 hg hT hr hn hl;go_enter func200,ntmps200;go_wp2;go_loopw [4,11] (fun v i wr=>∃(k:Nat) (xs:List Int),k≤n∧i=.int .i64 k∧Hid (Bi (l.take k)=some xs)∧xs.length≤k∧wr.ownsRow w.heap.size 3 1 v xs.length (Aa xs)∧Below w.heap.size w wr) (fun _ i _=>n-(intOf i).toNat)
 case atStart=>exact⟨0,[],Nat.zero_le _,rfl,rfl,Nat.le_refl _,World.ownsRow_nil _ _ _ _,Below.refl _ _⟩
 case round=>
  obtain⟨k,xs,hk,rfl,hacc,hxl,hown,hb⟩:=hrel
  by_cases hlt:k<n
  ·have hkl:k<l.length:=by rw[HN.out];exact hlt
   obtain⟨b,off,rfl,hbl,cw⟩:=Ms HR.out k hkl;have c0:=(hb.cell (p:=⟨b,off+k,none⟩) hbl).trans cw;have hx:=HL.out _ (List.getElem_mem hkl);have HS:Hid (Bi (l.take (k+1))=Bv (some xs) l[k]):=by unfold Hid;rw[List.take_succ_eq_append_getElem hkl,Fi,hacc.out]
   have HNO:Hid (Bv (some xs) l[k]=none→Bi l=none):=fun h=>by
    have h1:=Hi (l.drop (k+1)) (HS.out.trans h)
    rwa [List.take_append_drop] at h1
   have hi0:(0:Int)≤(k:Int):=by omega
   have hi1:(k:Int)<(n:Int):=by omega
   generalize l[k]=s at *;have K1:=zh (KN.out wr s hb hx)
   cases hf:Cl s with
   | none=>
    have e3:Aw s=false:=by unfold Aw;rw[hf];rfl
    have HZ:Hid (Bi l=none):=HNO.out (by simp[Bv,hf]);rw[e3] at K1;clear e3 hf HNO HS;generalize Ah s=ns at *;go_wp2_with fail;refine K1.out.mono ?_;rintro e w2⟨rfl,hb2⟩;have hv2:=Ar hb hb2;have g1:=HG.out w2 hv2;simp only[gOf] at g1;rw[HE.out] at g1;go_wp2;go_quiet (fail);go_wp2;go_ret2;exact Or.inr ⟨HZ.out,by rw[HE.out];rfl,Ab hv2 _⟩
   | some nn=>
    have e3:Aw s=true:=by unfold Aw;rw[hf];rfl
    have e4:Ah s=nn:=by unfold Ah;rw[hf];rfl
    have HZ:Hid (Bi (l.take (k+1))=some (xs++[nn])):=by unfold Hid;rw[HS.out];simp[Bv,hf]
    rw[e3,e4] at K1;clear e3 e4 hf HNO HS;go_wp2_with fail;refine K1.out.mono ?_;rintro e w5⟨rfl,hb5⟩;have hv5:=Ar hb hb5;have hown5:=Cb hown hb5;have HO2:=zh (hown5.alloc (.cells #[.int .i64 nn] 3));have HW:=zh (Ac.new_at w5 [.int .i64 nn] 3 _ rfl);have HV:=zh (hv5.alloc hv5.size (.cells #[.int .i64 nn] 3));clear hown hown5;go_wp2_with (at_builtin;refine Ag _ rfl (.tmp 23) (.tmp 25) 72 rfl w.heap.size 3 i0 _ 1 8 underlying72 hi'.out hz0'.out hz1'.out hz2'.out rfl (by decide) _ xs.length (Aa xs) rfl HO2.out (some ⟨w5.heap.size,0,none⟩) 1 1 [.int .i64 nn] rfl rfl HW.out ?_ ?_ ?_ ?_ ?_;(simp[Value.oneCell']);(unfold maxLen;omega);(omega);(exact HV.out.size);intro v1 w6 ho1 hg1 hq hm1;clear hq hm1);have hv6:=HV.out.grown hg1 HV.out.size (fun j e=>(HO2.out.lt j e).1);go_roundw
    case rel=>exact⟨k+1,xs++[nn],by omega,by go_num,HZ,by simp;omega,by rw[List.length_append,List.length_singleton];simpa[Aa] using ho1,hv6⟩
    case measure=>simp[intOf];omega
  ·obtain rfl:k=n:=by omega
   have HZ:Hid (Bi l=some xs):=by unfold Hid;rw[←hacc.out,←HN.out,List.take_length]
   obtain⟨av,cv,rfl⟩:=Aj hown;go_wp2;go_ret2;exact Or.inl ⟨xs,_,HZ.out,rfl,hown,hb⟩
structure Cf(w:World)(base pb:Nat)(Y:YL)(y:YP):Prop where
 blk:Af w pb 120 #[.pointer (some ⟨Y.yb,0,none⟩)]
 low:base≤pb
 yard:B8 w base Y y
def Rb(w:World)(pb:Nat)(Y:YL):Nat→Prop:=fun k=>k=pb∨Ju w Y k
theorem Cf.owns{w:World}{base pb:Nat}{Y:YL}{y:YP}(h:Cf w base pb Y y){k:Nat}(hk:Rb w pb Y k):base≤k∧k<w.heap.size∧∃cur fz t,w.heap[k]?=some (.cells cur t fz)∧(t=5∨t=104∨t=69∨t=120):=by
 rcases hk with rfl|hk
 ·exact⟨h.low,h.blk.lt,_,_,_,h.blk,Or.inr (Or.inr (Or.inr rfl))⟩
 ·obtain⟨h1,h2,cur,fz,t,h3,h4⟩:=h.yard.owns hk
  exact⟨h1,h2,cur,fz,t,h3,h4.elim Or.inl (fun e=>Or.inr (e.elim Or.inl (fun e=>Or.inr (Or.inl e))))⟩
theorem Cf.not_yard{w:World}{base pb:Nat}{Y:YL}{y:YP}(h:Cf w base pb Y y):¬Ju w Y pb:=fun hk=>by
 obtain⟨_,_,cur,fz,t,h3,h4⟩:=h.yard.owns hk;rw[show w.heap[pb]?=_ from h.blk] at h3;injection h3 with h3;injection h3 with _ e;subst e
 rcases h4 with h4|h4|h4<;>revert h4<;>decide
theorem Cf.below{w w':World}{base pb:Nat}{Y:YL}{y:YP}(h:Cf w base pb Y y)(hb:Below w.heap.size w w'):Cf w' base pb Y y:=⟨h.blk.kept hb,h.low,h.yard.below hb⟩
theorem Cf.size{w:World}{base pb:Nat}{Y:YL}{y:YP}(h:Cf w base pb Y y):base≤w.heap.size:=h.yard.size
theorem Rb.back{w w':World}{base pb:Nat}{Y:YL}{y:YP}(h:Cf w base pb Y y)(hb:Below w.heap.size w w'){k:Nat}(hk:Rb w' pb Y k):Rb w pb Y k:=hk.elim Or.inl (fun h1=>Or.inr (h1.back h.yard hb))
theorem Cf.step{w w1 w':World}{base pb:Nat}{Y Y':YL}{y y':YP}(h:Cf w base pb Y y)(hb:Below w.heap.size w w1)(hs:Fm w1 w' Y Y')(hY:B8 w' base Y' y'):Cf w' base pb Y' y'∧Fr (Rb w pb Y) w w':=by
 have h1:=h.below hb;refine⟨⟨?_,h.low,hY⟩,(Fr.of hb).then hs.fr (fun i hi=>?_)⟩
 ·have e:=(hs.fr.block pb h1.blk.lt h1.not_yard).trans h1.blk
  rw[←hs.yb] at e;exact e
 ·exact Or.inl (Or.inr (hi.back h.yard hb))
def zEs(S:Nat→Prop)(w:World):Prop:=∀k,k<w.heap.size→S k→∃cur fz t,w.heap[k]?=some (.cells cur t fz)∧(t=5∨t=104∨t=69∨t=120∨t=9)
theorem Ap.spared{S:Nat→Prop}{w w':World}{L:CL}{c:CP}(h:Ap w L c)(hf:Fr S w w')(hs:zEs S w):Ap w' L c:=by
 obtain⟨l1,l2,l3,l4⟩:=h.lt;obtain⟨a1,a2,a3,⟨q,hq,a4⟩,a6⟩:=h
 have no:∀k cur t,w.heap[k]?=some (.cells cur t (0,0))→t≠5→t≠104→t≠69→t≠120→t≠9→¬S k:=fun k cur t hk n1 n2 n3 n4 n5 hS=>by
  obtain⟨cur',fz,t',h1,h2⟩:=hs k (Array.getElem?_eq_some_iff.1 hk).1 hS;rw[h1] at hk;injection hk with hk;injection hk with _ e;subst e
  rcases h2 with h2|h2|h2|h2|h2
  ·exact n1 h2
  ·exact n2 h2
  ·exact n3 h2
  ·exact n4 h2
  ·exact n5 h2
 have nom:∀k es clock,w.heap[k]?=some (.map es clock)→¬S k:=fun k es clock hk hS=>by
  obtain⟨cur',fz,t',h1,h2⟩:=hs k (Array.getElem?_eq_some_iff.1 hk).1 hS;rw[h1] at hk;cases hk
 obtain⟨es,clock,hm⟩:=a4.map;obtain⟨es2,clock2,hm2⟩:=a3.2.2.map;refine Ap.kept ⟨a1,a2,a3,⟨q,hq,a4⟩,a6⟩ hf (fun k hk=>?_) (nom _ _ _ hm2) (fun k cur t hk ht=>?_)
 ·rcases hk with rfl|rfl|rfl
  ·exact no _ _ _ a1 (by decide) (by decide) (by decide) (by decide) (by decide)
  ·exact no _ _ _ a3.1 (by decide) (by decide) (by decide) (by decide) (by decide)
  ·exact nom _ _ _ hm
 ·rcases ht with rfl|rfl
  ·exact no _ _ _ hk (by decide) (by decide) (by decide) (by decide) (by decide)
  ·exact no _ _ _ hk (by decide) (by decide) (by decide) (by decide) (by decide)
theorem Cf.kept{S:Nat→Prop}{w w':World}{base pb:Nat}{Y:YL}{y:YP}(h:Cf w base pb Y y)(hf:Fr S w w')(hs:∀k,Rb w pb Y k→¬S k)(hp:zEs S w):Cf w' base pb Y y:=
 ⟨(hf.block pb h.blk.lt (hs _ (Or.inl rfl))).trans h.blk,h.low,h.yard.kept hf (fun k hk=>hs k (Or.inr hk)) (h.yard.clus.spared hf hp)⟩
def H6(ea:Nat→Addr)(base pb:Nat)(Y:YL)(r:YP×List UInt8×Nat)(w:World)(e:Ending)(w':World):Prop:=
 ∃(Y':YL) (t:List UInt8) (v:Value) (pl:Int),e=.returned (.tuple #[.string ⟨t.toArray⟩,v])∧Bg ea w' v r.2.2 pl∧(r.2.2=0→t=r.2.1)∧Cf w' base pb Y' r.1∧Fr (Rb w pb Y) w w'
theorem Cy{ea:Nat→Addr}{base pb:Nat}{Y:YL}{y:YP}{w w':World}(h:Cf w base pb Y y)(hb:Below w.heap.size w w'){t:List UInt8}{k:Nat}{a:List UInt8}(ht:k=0→t=a):H6 ea base pb Y (y,a,k) w (.returned (.tuple #[.string ⟨t.toArray⟩,Bm ea k])) w':=
 ⟨Y,t,_,-1,rfl,Bg.bare ea w' k,ht,h.below hb,Fr.of hb⟩
theorem zHc(ea:Nat→Addr)(base pb:Nat)(Y:YL)(y:YP)(a:Option Addr)(n cap:Nat)(l:List (List UInt8))(w:World)(hE:Lg ea base w)(h:Cf w base pb Y y)(hn:l.length=n)(hr:Ac w a (Ad l))(hl:∀x∈l,x.length≤1000000)(hc:n≤100000) :
 Calls prog 157 #[.pointer (some ⟨pb,0,none⟩),.slice a n cap] w (H6 ea base pb Y (y.cutP l) w):=by
 obtain⟨hG,hT⟩:=hE.now;have K:=zh (Pm ea a n cap l w (hG.glob.sub (by simp)) hT hn hr hl hc);have HG:=zh (fun(W:World) (hb:Below w.heap.size w W)=>(hG.below hb).glob);have HE1:=zh (Ae ea (k:=1) (by decide));have H:=zh h;clear hG hT hE hr hl h;go_enter func157,ntmps157;go_wp2_with fail;refine K.out.mono ?_;rintro e w1 (⟨xs,v,hx,rfl,hown,hb1⟩|⟨hx,rfl,hb1⟩)
 ·obtain⟨av,cv,rfl⟩:=Aj hown
  have hrow:=(Ac.owned hown).1
  by_cases h1:xs.length=1
  ·obtain⟨x,rfl⟩:=List.length_eq_one_iff.1 h1
   have HS:Hid (y.cutP l=(⟨y.c,(Gx y.d x).1⟩,okB,(Gx y.d x).2)):=by unfold Hid YP.cutP;rw[hx]
   have hxb:=Ja hx x (by simp);obtain⟨b,off,rfl,hbl,c0⟩:=hrow.int 0 (by simp);simp only[List.getElem_cons_zero,Nat.add_zero] at c0;have H1:=zh (H.out.below hb1);have p0:=H1.out.blk.cell 0 rfl;have KT:=zh (fun(W:World) (hb:Below w1.heap.size w1 W)=>Vo base Y y W (H1.out.yard.below hb));have KC:=zh (fun(W:World) (hb:Below w1.heap.size w1 W)=>Xk ea base Y.D y.d x W ((HG.out W (Ar hb1 hb)).sub (by simp)) (H1.out.yard.below hb).disk);have HX:=zh hxb;clear K hown hrow h1 hx hxb;go_wp2;go_still_tail 8,(by kernel_rfl)
   still_call ((KT.out _ zb.drew).mono fun _ _ ⟨h1,h2⟩=>⟨h1,h2.symm⟩)
   repeat still_step
   try refine wpStill_nil ?_
   change wpList _ _ _ _ _ w1.drew
   go_wp2_with (go_at_call 201;refine(KC.out _ zb.drew).mono ?_;rintro e w2⟨rfl,hD2,hS2⟩);go_ret2
   obtain⟨hy2,hs2⟩:=H1.out.yard.moved zb.drew hD2 hS2 (by
    have h1:=H1.out.yard.cut;have h2:=HX.out;unfold Gx
    split
    ·exact h1
    ·split
     ·exact h1
     ·dsimp only;omega)
   obtain⟨q1,q2⟩:=H.out.step hb1 hs2 hy2;rw[HS.out];exact⟨Y,_,_,-1,rfl,Bg.bare ea _ _,fun _=>rfl,q1,q2⟩
  ·have HS:Hid (y.cutP l=(y,[],1)):=by
    unfold Hid YP.cutP;rw[hx]
    rcases xs with _|⟨x,_|⟨z,r⟩⟩
    ·rfl
    ·exact absurd rfl h1
    ·rfl
   have d1:(((xs.length:Nat):Int)==1)=false:=beq_eq_false_iff_ne.2 (by omega);have g1:=(HG.out w1 hb1).cell 1 (by simp);simp only[gOf] at g1;rw[HE1.out] at g1;clear K hown hrow h1 hx;generalize xs.length=q at *;go_wp2;go_quiet (fail);go_wp2;go_ret2;rw[HS.out,←HE1.out];exact Cy H.out (Ab hb1 _) (fun e=>absurd e (by decide))
 ·have HS:Hid (y.cutP l=(y,[],1)):=by unfold Hid YP.cutP;rw[hx]
  have g1:=(HG.out w1 hb1).cell 1 (by simp);simp only[gOf] at g1;rw[HE1.out] at g1 ⊢;clear K hx;go_wp2;go_quiet (fail);go_wp2;go_ret2;rw[HS.out,←HE1.out];exact Cy H.out (Ab hb1 _) (fun e=>absurd e (by decide))
theorem Cf.anew{w1 w2:World}{base pb:Nat}{Y Y2:YL}{y y2:YP}(h:Cf w1 base pb Y y)(hY:B8 w2 base Y2 y2)(hF:Fr (Ju w1 Y) w1 w2) :
 Cf (w2.setCell ⟨pb,0,none⟩ (.pointer (some ⟨Y2.yb,0,none⟩))) base pb Y2 y2∧Fr (Rb w1 pb Y) w1 (w2.setCell ⟨pb,0,none⟩ (.pointer (some ⟨Y2.yb,0,none⟩))):=by
 have hb2:Af w2 pb 120 #[.pointer (some ⟨Y.yb,0,none⟩)]:=(hF.block pb h.blk.lt h.not_yard).trans h.blk;have hF5:Fr (fun k=>k=pb) w2 (w2.setCell ⟨pb,0,none⟩ (.pointer (some ⟨Y2.yb,0,none⟩))):=(Fr.refl (fun k=>k=pb) w2).setCell (p:=⟨pb,0,none⟩) (Or.inl rfl) _
 have hno:∀k,Ju w2 Y2 k→¬(k=pb):=fun k hk e=>by
  subst e;obtain⟨_,_,cur,fz,t,h3,h4⟩:=hY.owns hk;rw[show w2.heap[k]?=_ from hb2] at h3;injection h3 with h3;injection h3 with _ e;subst e
  rcases h4 with h4|h4|h4<;>revert h4<;>decide
 have hbl:=hb2.set 0 (.pointer (some ⟨Y2.yb,0,none⟩));refine⟨⟨by simpa using hbl,h.low,hY.kept hF5 hno (hY.clus.spared hF5 (fun k _ e=>by subst e;exact⟨_,_,_,hb2,Or.inr (Or.inr (Or.inr (Or.inl rfl)))⟩))⟩,⟨?_,?_,?_,?_,?_⟩⟩
 ·exact hF5.os.trans hF.os
 ·exact hF5.tape.trans hF.tape
 ·exact hF5.output.trans hF.output
 ·exact Nat.le_trans hF.size hF5.size
 ·intro k hk hS
  have h1:¬(k=pb):=fun e=>hS (Or.inl e)
  have h2:¬Ju w1 Y k:=fun e=>hS (Or.inr e)
  exact(hF5.block k (Nat.lt_of_lt_of_le hk hF.size) h1).trans (hF.block k hk h2)
theorem Cf.pre{w w1 w':World}{base pb:Nat}{Y:YL}{y:YP}(h:Cf w base pb Y y)(hb:Below w.heap.size w w1)(hF:Fr (Rb w1 pb Y) w1 w'):Fr (Rb w pb Y) w w':=
 (Fr.of hb).then hF (fun _ hi=>Or.inl (hi.back h hb))
theorem zD4(ea:Nat→Addr)(base pb:Nat)(Y:YL)(y:YP)(a:Option Addr)(n cap:Nat)(l:List (List UInt8))(w:World)(hE:Lg ea base w)(h:Cf w base pb Y y)(hn:l.length=n) :
 Calls prog 161 #[.pointer (some ⟨pb,0,none⟩),.slice a n cap] w (H6 ea base pb Y (y.textP l) w):=by
 obtain⟨hG,hT⟩:=hE.now;have HE1:=zh (Ae ea (k:=1) (by decide));have g1:=hG.glob.cell 1 (by simp);simp only[gOf] at g1;rw[HE1.out] at g1;have p0:=h.blk.cell 0 rfl;have KX:=zh (zEo ea base Y y w hE h.yard)
 have hlen:y.c.textY.length≤100000:=by
  have h1:=Ka h.yard.inv (Bq y.c.plan).length zl;have h2:=J3 y.c.plan;have h3:y.c.textY=y.c.textK (Bq y.c.plan).length:=by unfold CP.textK CP.textY;rw[List.take_length]
  rw[h3];omega
 have KR:=zh (fun(W:World) (hb:Below w.heap.size w W)=>Ik y.c.textY 10 59 W (hT.below hb) (by omega));have H:=zh h
 by_cases h0:n=0
 ·have HS:Hid (y.textP l=(y,Lib.replaceAll y.c.textY [10] [59],0)):=by unfold Hid YP.textP;rw[if_pos (List.eq_nil_of_length_eq_zero (hn.trans h0))]
  subst h0;clear hn hE h hG hT hlen g1;go_enter func161,ntmps161;go_wp2_with fail;refine KX.out.mono ?_;rintro e w1⟨rfl,hb1⟩;have K1:=zh (KR.out w1 hb1);go_wp2_with fail;refine K1.out.mono ?_;rintro e w2⟨rfl,hb2⟩;go_wp2;go_ret2;rw[HS.out,←Al ea];exact Cy H.out (Ar hb1 hb2) (fun _=>rfl)
 ·have HS:Hid (y.textP l=(y,[],1)):=by unfold Hid YP.textP;rw[if_neg (fun e=>h0 (by rw[←hn,e];rfl))]
  have h1:(0:Int)<(n:Int):=by omega
  have d1:decide ((0:Int)<(n:Int))=true:=decide_eq_true h1;clear hn hE h hG hT hlen h0 p0;go_enter func161,ntmps161;go_wp2;go_quiet (fail);go_wp2;go_ret2;rw[HS.out,←HE1.out];exact Cy H.out (Ab zb _) (fun e=>absurd e (by decide))
theorem zAt(ea:Nat→Addr)(base pb:Nat)(Y:YL)(y:YP)(a:Option Addr)(n cap:Nat)(l dn:List (List UInt8))(k:Nat)(w:World)(hE:Lg ea base w)(h:Cf w base pb Y y)(hI:Fg k y dn)(hk:k≤200)(hn:l.length=n) :
 Calls prog 158 #[.pointer (some ⟨pb,0,none⟩),.slice a n cap] w (H6 ea base pb Y (y.againP l) w):=by
 obtain⟨hG,hT⟩:=hE.now;have HE1:=zh (Ae ea (k:=1) (by decide));have g1:=hG.glob.cell 1 (by simp);simp only[gOf] at g1;rw[HE1.out] at g1;have p0:=h.blk.cell 0 rfl;have H:=zh h;have KT:=zh (Vo base Y y w h.yard);have hmany:=hI.many;have KO:=zh (zEj ea base Y.D y.d dn w hE h.size h.yard.disk hI.parse (by omega));have HI:=zh hI
 by_cases h0:n=0
 ·have HS:Hid (y.againP l=(⟨y.c,⟨dn.flatMap A7,false,-1⟩⟩,okB,0)):=by unfold Hid YP.againP;rw[if_pos (List.eq_nil_of_length_eq_zero (hn.trans h0)),Pj hI.parse]
  subst h0;clear hn hE h hG hT g1 hI hmany;go_enter func158,ntmps158;go_wp2_with fail;refine KT.out.mono ?_;rintro e w1⟨rfl,rfl⟩;go_wp2_with fail;refine KO.out.mono ?_;rintro e w2 hp
  rcases hp with⟨_,Y2,_,rfl,hY2,hF2,_,_,_⟩|⟨h1,_⟩
  rotate_left
  ·exact absurd (by rw[HI.out.run]) h1
  rw[HI.out.run,HI.out.take] at hY2;have hF3:Fr (Ju w Y) w w2:=⟨hF2.os,hF2.tape,hF2.output,hF2.size,fun j hj hS=>hF2.block j hj (fun e=>hS (Or.inr e))⟩;obtain⟨q1,q2⟩:=H.out.anew hY2 hF3;have hb2:Af w2 pb 120 #[.pointer (some ⟨Y.yb,0,none⟩)]:=(hF3.block pb H.out.blk.lt H.out.not_yard).trans H.out.blk;have m0:=hb2.cell 0 rfl;have mf:=hb2.frozen 0;have Q1:=zh q1;have Q2:=zh q2;clear KT KO hF2 hF3 hY2 q1 q2 hb2;go_wp2;go_ret2;rw[HS.out];exact⟨Y2,_,_,-1,rfl,Or.inl ⟨rfl,(Al ea).symm⟩,fun _=>rfl,Q1.out,Q2.out⟩
 ·have HS:Hid (y.againP l=(y,[],1)):=by unfold Hid YP.againP;rw[if_neg (fun e=>h0 (by rw[←hn,e];rfl))]
  have h1:(0:Int)<(n:Int):=by omega
  have d1:decide ((0:Int)<(n:Int))=true:=decide_eq_true h1;clear hn hE h hG hT h0 p0 hI hmany KT KO;go_enter func158,ntmps158;go_wp2;go_quiet (fail);go_wp2;go_ret2;rw[HS.out,←HE1.out];exact Cy H.out (Ab zb _) (fun e=>absurd e (by decide))
theorem Kl{l:List Int}(h:∀x∈l,-10000000<x∧x<10000000)(k:Nat) : -10000000<l.getD k 0∧l.getD k 0<10000000:=by
 by_cases hk:k<l.length
 ·rw[List.getD_eq_getElem?_getD,List.getElem?_eq_getElem hk]
  exact h _ (List.getElem_mem hk)
 ·rw[List.getD_eq_getElem?_getD,List.getElem?_eq_none (by omega)]
  exact⟨by decide,by decide⟩
theorem zAd{l:List Int}(h:∀x∈l,-10000000<x∧x<10000000)(k:Int) : -9223372036854775808≤(E2 l k).1∧(E2 l k).1≤9223372036854775807:=by
 unfold E2
 split
 ·dsimp only
  unfold Sa;have hs:∀x∈Bt l,-10000000<x∧x<10000000:=fun x hx=>h x ((Im l).mem_iff.1 hx)
  have h1:=Kl hs k.toNat;have h2:=Kl hs (l.length-1-k.toNat);omega
 ·exact⟨by dsimp only;decide,by dsimp only;decide⟩
theorem Qi{l:List Int}(hl:l.length≤1000000)(n s:Int) : -9223372036854775808≤(Dy l n s).1∧(Dy l n s).1≤9223372036854775807:=by
 unfold Dy
 split
 ·rename_i h0
  obtain⟨_,h1,h2⟩:=Dw h0
  split
  ·rename_i m hm
   rw[Pd,List.find?_range_eq_some] at hm;have hm':=hm.2.1;simp only[List.mem_range] at hm';dsimp only;omega
  ·exact⟨by decide,by decide⟩
 ·exact⟨by dsimp only;decide,by dsimp only;decide⟩
theorem zHd(ea:Nat→Addr)(base pb:Nat)(Y:YL)(y:YP)(a:Option Addr)(n cap:Nat)(l:List (List UInt8))(w:World)(hE:Lg ea base w)(h:Cf w base pb Y y)(hn:l.length=n)(hr:Ac w a (Ad l))(hl:∀x∈l,x.length≤1000000)(hc:n≤900) :
 Calls prog 159 #[.pointer (some ⟨pb,0,none⟩),.slice a n cap] w (H6 ea base pb Y (y.midP l) w):=by
 subst hn;obtain⟨hG,hT⟩:=hE.now;have K:=zh (Pm ea a l.length cap l w (hG.glob.sub (by simp)) hT rfl hr hl (by omega));have HG:=zh (fun(W:World) (hb:Below w.heap.size w W)=>(hG.below hb).glob);have HT:=zh (fun(W:World) (hb:Below w.heap.size w W)=>hT.below hb);have HE1:=zh (Ae ea (k:=1) (by decide));have H:=zh h;clear hG hT hE hr hl h;go_enter func159,ntmps159;go_wp2_with fail;refine K.out.mono ?_;rintro e w1 (⟨xs,v,hx,rfl,hown,hb1⟩|⟨hx,rfl,hb1⟩)
 ·obtain⟨av,cv,rfl⟩:=Aj hown
  have hrow:=(Ac.owned hown).1;have hlx:=En hx;obtain⟨m,hm⟩:∃m,m=xs.length:=⟨_,rfl⟩
  rw[←hm] at hlx;rw[←hm];have HM:=zh hm;subst hlx
  by_cases h1:2≤l.length
  ·obtain⟨x0,a1,r,rfl⟩:∃x0 a1 r,xs=x0::a1::r:=by
    rcases xs with _|⟨x0,_|⟨a1,r⟩⟩
    ·have:=HM.out;rw[List.length_nil] at this;omega
    ·have:=HM.out;rw[List.length_singleton] at this;omega
    ·exact⟨x0,a1,r,rfl⟩
   have HS:Hid (y.midP l=(y,Lib.itoa (E2 (a1::r) x0).1,(E2 (a1::r) x0).2.1)):=by unfold Hid YP.midP;rw[hx]
   have hmb:=zAd (l:=a1::r) (fun z hz=>Ja hx z (List.mem_cons_of_mem _ hz)) x0;obtain⟨b,off,rfl,hbl,c0⟩:=hrow.int 0 (by simp);simp only[List.getElem_cons_zero,Nat.add_zero] at c0
   have hdr:Ac w1 (some ⟨b,off+1,none⟩) (Aa (a1::r)):=by
    have:=hrow.drop 1;exact this
   have HD:=zh hdr;have KM:=zh (fun(W:World) (hb:Below w1.heap.size w1 W)=>zIk ea (some ⟨b,off+1,none⟩) (l.length-1) (cv-1) (a1::r) x0 W ((HG.out W (Ar hb1 hb)).sub (by simp)) (by rw[HM.out];simp) (HD.out.below hb) (by omega));have hcv:l.length≤cv:=by have:=(Ac.owned hown).2.2.1;rw[HM.out];exact this
   have d1:decide ((l.length:Int)<2)=false:=decide_eq_false (by omega);have i1:(1:Int)≤(l.length:Int):=by omega
   have i0:0<l.length:=by omega
   have c1:¬cv=1:=by omega
   clear K hown hrow hx hdr hm;generalize E2 (a1::r) x0=z at *;obtain⟨z1,z2,z3⟩:=z;dsimp only at HS KM hmb;go_wp2;have hdr:Below w1.heap.size w1 w1.drew:=zb.drew;have k0:=(hdr.cell (p:=⟨b,off,none⟩) hbl).trans c0;have hbd:b<w1.drew.heap.size:=Nat.lt_of_lt_of_le hbl hdr.size;have KM1:=zh (KM.out _ hdr);clear c0 hdr
   go_region_held3 (fun w'=>w'.cell? ⟨b,off,none⟩=some (.int .i64 x0)) (go_keep)
    ((go_at_call 202;(with_reducible refine KM1.out.mono ?_);rintro e w2⟨v,rfl,hE2,hb2⟩;have d0:=(hb2.cell (p:=⟨b,off,none⟩) hbd).trans k0))
   have hv2:Below w.heap.size w w2:=Ar (Ar hb1 zb.drew) hb2;have K2:=zh (Df z1 w2 (HT.out w2 hv2) hmb);have HE2:=zh hE2;clear hE2 KM d0 k0;go_wp2_with fail;refine K2.out.mono ?_;rintro e w3⟨rfl,hb3⟩;go_wp2;go_ret2;rw[HS.out];exact⟨Y,_,v,z3,rfl,HE2.out.below hb3,fun _=>rfl,H.out.below (Ar hv2 hb3),Fr.of (Ar hv2 hb3)⟩
  ·have HS:Hid (y.midP l=(y,[],1)):=by
    unfold Hid YP.midP;rw[hx]
    rcases xs with _|⟨x0,_|⟨a1,r⟩⟩
    ·rfl
    ·rfl
    ·exfalso;have:=HM.out;rw[List.length_cons,List.length_cons] at this;omega
   have d1:decide ((l.length:Int)<2)=true:=decide_eq_true (by omega);have g1:=(HG.out w1 hb1).cell 1 (by simp);simp only[gOf] at g1;rw[HE1.out] at g1;clear K hown hrow hx hm;go_wp2;go_quiet (fail);go_wp2;go_ret2;rw[HS.out,←HE1.out];exact Cy H.out (Ab hb1 _) (fun e=>absurd e (by decide))
 ·have HS:Hid (y.midP l=(y,[],1)):=by unfold Hid YP.midP;rw[hx]
  have g1:=(HG.out w1 hb1).cell 1 (by simp);simp only[gOf] at g1;rw[HE1.out] at g1 ⊢;clear K hx;go_wp2;go_quiet (fail);go_wp2;go_ret2;rw[HS.out,←HE1.out];exact Cy H.out (Ab hb1 _) (fun e=>absurd e (by decide))
theorem Sc{y:YP}{a b c:List UInt8}{xs:List Int}{p q:Int}(h1:J5 a=some xs)(h2:Cl b=some p)(h3:Cl c=some q):y.nextP [a,b,c]=(y,Lib.itoa (Dy xs p q).1,(Dy xs p q).2.1):=by
 simp only[YP.nextP,Sb,h1,h2,h3]
theorem Ie{y:YP}{a b c:List UInt8}(h:J5 a=none∨Cl b=none∨Cl c=none):y.nextP [a,b,c]=(y,[],1):=by
 simp only[YP.nextP,Sb]
 cases h1:J5 a with
 | none=>rfl
 | some xs=>
  cases h2:Cl b with
  | none=>rfl
  | some p=>
   cases h3:Cl c with
   | none=>rfl
   | some q=>rw[h1,h2,h3] at h;simp at h
theorem Uz{y:YP}{l:List (List UInt8)}(h:l.length≠3):y.nextP l=(y,[],1):=by
 rcases l with _|⟨a,_|⟨b,_|⟨c,_|⟨d,r⟩⟩⟩⟩
 ·rfl
 ·rfl
 ·rfl
 ·exact absurd rfl h
 ·rfl
theorem zJg{l:List (List UInt8)}(h:l.length=3):∃a b c,l=[a,b,c]:=by
 rcases l with _|⟨a,_|⟨b,_|⟨c,_|⟨d,r⟩⟩⟩⟩
 ·simp at h
 ·simp at h
 ·simp at h
 ·exact⟨a,b,c,rfl⟩
 ·simp at h
theorem zGq{b c:List UInt8}{ys:List Int}(h:Bi [b,c]=some ys):∃p q,ys=[p,q]∧Cl b=some p∧Cl c=some q:=by
 cases hb:Cl b with
 | none=>simp[Bi,Bv,hb] at h
 | some p=>
  cases hc:Cl c with
  | none=>simp[Bi,Bv,hb,hc] at h
  | some q=>
   simp[Bi,Bv,hb,hc] at h;exact⟨p,q,h.symm,rfl,rfl⟩
theorem T7{b c:List UInt8}(h:Bi [b,c]=none):Cl b=none∨Cl c=none:=by
 cases hb:Cl b with
 | none=>exact Or.inl rfl
 | some p=>
  cases hc:Cl c with
  | none=>exact Or.inr rfl
  | some q=>simp[Bi,Bv,hb,hc] at h
theorem zD2(ea:Nat→Addr)(base pb:Nat)(Y:YL)(y:YP)(a:Option Addr)(n cap:Nat)(l:List (List UInt8))(w:World)(hE:Lg ea base w)(h:Cf w base pb Y y)(hn:l.length=n)(hr:Ac w a (Ad l))(hl:∀x∈l,x.length≤900000)(hc:n≤cap) :
 Calls prog 160 #[.pointer (some ⟨pb,0,none⟩),.slice a n cap] w (H6 ea base pb Y (y.nextP l) w):=by
 obtain⟨hG,hT⟩:=hE.now;have HG:=zh (fun(W:World) (hb:Below w.heap.size w W)=>(hG.below hb).glob);have HT:=zh (fun(W:World) (hb:Below w.heap.size w W)=>hT.below hb);have HE1:=zh (Ae ea (k:=1) (by decide));have g1:=hG.glob.cell 1 (by simp);simp only[gOf] at g1;rw[HE1.out] at g1;have H:=zh h
 by_cases h3:n=3
 ·subst h3
  obtain⟨wa,wb,wc',rfl⟩:=zJg hn;obtain⟨b,off,rfl,hbl,c0⟩:=Ms hr 0 (by simp);simp only[List.getElem_cons_zero,Nat.add_zero] at c0;have K1:=zh (Ye ea wa w (Nat.le_trans (hl wa (by simp)) (by decide)) (hG.glob.sub (by simp)) hT);have hd:Ac w (some ⟨b,off+1,none⟩) (Ad [wb,wc']):=hr.drop 1;have K2:=zh (fun(W:World) (hb:Below w.heap.size w W)=>Pm ea (some ⟨b,off+1,none⟩) 2 (cap-1) [wb,wc'] W ((hG.below hb).glob.sub (by simp)) (hT.below hb) rfl (hd.below hb) (fun x hx=>Nat.le_trans (hl x (List.mem_cons_of_mem _ hx)) (by decide)) (by omega));have HWA:=zh (hl wa (by simp));have cc:¬cap=1:=by omega
  clear hG hT hE hr hl h hd hn g1;go_enter func160,ntmps160;go_wp2_with fail;refine K1.out.mono ?_;rintro e w1 (⟨xs,v,hx,rfl,hown,hb1⟩|⟨hx,rfl,hb1⟩)
  ·have K3:=zh (K2.out w1 hb1)
   have hown:=hown;obtain⟨av,cv,rfl⟩:=Aj hown;have hrow:=(Ac.owned hown).1;have HRW:=zh hrow;have HX:=zh hx;have hxm:xs.length≤1000000→True:=fun _=>trivial
   have HXL:=zh (show xs.length=(Az 44 wa).length from En hx);clear hown hrow hx K1 K2 hxm;go_wp2_with fail;refine K3.out.mono ?_;rintro e w2 (⟨ys,v2,hy,rfl,hown2,hb2⟩|⟨hy,rfl,hb2⟩)
   ·obtain⟨p,q,rfl,hp,hq⟩:=zGq hy
    obtain⟨av2,cv2,rfl⟩:=Aj hown2;have hrow2:=(Ac.owned hown2).1;have HS:=zh (Sc (y:=y) HX.out hp hq);obtain⟨b2,off2,rfl,hbl2,x0⟩:=hrow2.int 0 (by simp);obtain⟨b3,off3,e2,_,x1⟩:=hrow2.int 1 (by simp);injection e2 with e2;injection e2 with e2 e3;subst e2 e3;simp only[List.getElem_cons_zero,List.getElem_cons_succ,Nat.add_zero] at x0 x1;have hv2:=Ar hb1 hb2;have hdr:Below w2.heap.size w2 w2.drew:=zb.drew;have k0:=(hdr.cell (p:=⟨b2,off2,none⟩) hbl2).trans x0;have k1:=(hdr.cell (p:=⟨b2,off2+1,none⟩) hbl2).trans x1;have hbd:b2<w2.drew.heap.size:=Nat.lt_of_lt_of_le hbl2 hdr.size;have hvd:=Ar hv2 hdr;have KM1:=zh (zGl ea av xs.length cv xs p q w2.drew ((HG.out _ hvd).sub (by simp)) rfl ((HRW.out.below hb2).below hdr) (by rw[HXL.out];have:=HWA.out;have:=Ch 44 wa;omega));have hnb:=Qi (l:=xs) (by rw[HXL.out];have:=HWA.out;have:=Ch 44 wa;omega) p q;generalize Dy xs p q=z at *;obtain⟨z1,z2,z3⟩:=z;dsimp only at HS KM1 hnb;clear x0 x1 K3 hy hp hq hown2 hrow2 hdr;have i2:(0:Int)≤1:=by decide
    go_wp2
    go_region_held3 (fun w'=>w'.cell? ⟨b2,off2,none⟩=some (.int .i64 p)∧w'.cell? ⟨b2,off2+1,none⟩=some (.int .i64 q)) (go_keep)
     ((go_at_call 203;(with_reducible refine KM1.out.mono ?_);rintro e w3⟨v,rfl,hE3,hb3⟩;have d0:=(hb3.cell (p:=⟨b2,off2,none⟩) hbd).trans k0;have d1:=(hb3.cell (p:=⟨b2,off2+1,none⟩) hbd).trans k1))
    have hv3:Below w.heap.size w w3:=Ar hvd hb3;have K4:=zh (Df z1 w3 (HT.out w3 hv3) hnb);have HE3:=zh hE3;clear hE3 KM1 d0 d1 k0 k1;go_wp2_with fail;refine K4.out.mono ?_;rintro e w4⟨rfl,hb4⟩;go_wp2;go_ret2;rw[HS.out];exact⟨Y,_,v,z3,rfl,HE3.out.below hb4,fun _=>rfl,H.out.below (Ar hv3 hb4),Fr.of (Ar hv3 hb4)⟩
   ·have HS:=zh (Ie (y:=y) (a:=wa) (Or.inr (T7 hy)))
    have hv2:=Ar hb1 hb2;rw[HE1.out];clear hy K3;go_wp2;go_ret2;rw[HS.out,←HE1.out];exact Cy H.out hv2 (fun e=>absurd e (by decide))
  ·have HS:=zh (Ie (y:=y) (b:=wb) (c:=wc') (Or.inl hx))
   rw[HE1.out];clear hx K1 K2;go_wp2;go_ret2;rw[HS.out,←HE1.out];exact Cy H.out hb1 (fun e=>absurd e (by decide))
 ·have HS:=zh (Uz (y:=y) (l:=l) (by omega))
  have d1:((n:Int)==3)=false:=beq_eq_false_iff_ne.2 (by omega);clear hn hE h hG hT hr hl;go_enter func160,ntmps160;go_wp2;go_quiet (fail);go_wp2;go_ret2;rw[HS.out,←HE1.out];exact Cy H.out (Ab zb _) (fun e=>absurd e (by decide))
def Gl:List Value:=[.func (.func 157) #[] #[],.func (.func 158) #[] #[],.func (.func 159) #[] #[],.func (.func 160) #[] #[],.func (.func 161) #[] #[],.nilFunc]
theorem Jw:Gl.Pairwise (·≠·):=by simp[Gl]
theorem zJa(w:World):(zeroValue 168).run prog w=.ok .nilFunc w:=by kernel_rfl
def zCh(s:List UInt8):Option Nat:=if s=Ox then some 4 else if s=Og then some 3 else if s=Tu then some 2 else if s=Kf then some 1 else if s=Tq then some 0 else none
theorem zJm(w:World):∃w1 w2 w3 w4 w5:World,
 (Instr.mapUpdate 170 (.map (some w.heap.size)) (.string ⟨#[99,117,116]⟩) (.func (.func 157) #[] #[])).run prog (w.alloc (.map #[] 0))=.ok () w1 ∧
 (Instr.mapUpdate 170 (.map (some w.heap.size)) (.string ⟨#[97,103,97,105,110]⟩) (.func (.func 158) #[] #[])).run prog w1=.ok () w2 ∧
 (Instr.mapUpdate 170 (.map (some w.heap.size)) (.string ⟨#[109,105,100]⟩) (.func (.func 159) #[] #[])).run prog w2=.ok () w3 ∧
 (Instr.mapUpdate 170 (.map (some w.heap.size)) (.string ⟨#[110,101,120,116]⟩) (.func (.func 160) #[] #[])).run prog w3=.ok () w4 ∧
 (Instr.mapUpdate 170 (.map (some w.heap.size)) (.string ⟨#[116,101,120,116]⟩) (.func (.func 161) #[] #[])).run prog w4=.ok () w5 ∧
 Hb prog 9 Gl w5 w.heap.size zCh 5∧Below w.heap.size w w5:=by
 have h0:=Xs prog 9 Gl w;obtain⟨w1,r1,h1,g1⟩:=I5 h0 underlying9 underlying170 Jw (by omega) [99,117,116] (by decide) (j:=0) (by simp[Gl]) rfl;obtain⟨w2,r2,h2,g2⟩:=I5 h1 underlying9 underlying170 Jw (by omega) [97,103,97,105,110] (by decide) (j:=1) (by simp[Gl]) rfl;obtain⟨w3,r3,h3,g3⟩:=I5 h2 underlying9 underlying170 Jw (by omega) [109,105,100] (by decide) (j:=2) (by simp[Gl]) rfl;obtain⟨w4,r4,h4,g4⟩:=I5 h3 underlying9 underlying170 Jw (by omega) [110,101,120,116] (by decide) (j:=3) (by simp[Gl]) rfl;obtain⟨w5,r5,h5,g5⟩:=I5 h4 underlying9 underlying170 Jw (by omega) [116,101,120,116] (by decide) (j:=4) (by simp[Gl]) rfl;have hb0:Below w.heap.size w (w.alloc (.map #[] 0)):=zb.alloc zl _;have hb1:=hb0.grown g1 hb0.size (fun j e=>by injection e with e;omega);have hb2:=hb1.grown g2 hb1.size (fun j e=>by injection e with e;omega);have hb3:=hb2.grown g3 hb2.size (fun j e=>by injection e with e;omega);have hb4:=hb3.grown g4 hb3.size (fun j e=>by injection e with e;omega);have hb5:=hb4.grown g5 hb4.size (fun j e=>by injection e with e;omega);exact⟨w1,w2,w3,w4,w5,r1,r2,r3,r4,r5,h5,hb5⟩
theorem Hx(w:World):Calls prog 111 #[] w fun e w'=>∃mb,e=.returned (.map (some mb))∧Hb prog 9 Gl w' mb zCh 5∧Below w.heap.size w w':=by
 have hmm:=@run_makeMap prog;obtain⟨w1,w2,w3,w4,w5,r1,r2,r3,r4,r5,hF,hb⟩:=zJm w;have HF:=zh hF;clear hF;go_enter func111,ntmps111;go_wp2;go_ret;exact⟨_,rfl,HF.out,hb⟩
theorem zD1(ea:Nat→Addr)(v:Value)(code:Nat)(pl:Int)(w:World)(hE:Fs w)(hv:Bg ea w v code pl)(h0:code≠0) :
 Calls prog 66 #[v] w fun e w'=>e=.returned (Bm ea code)∧Below w.heap.size w w':=by
 have HET:=zh hE;clear hE
 rcases hv with⟨_,rfl⟩|⟨hp,_,b,rfl,hlt,hc0,hc1⟩
 ·rw[Ae ea h0]
  go_enter func66,ntmps66;go_wp2_with fail;refine(Vr (ea code) ⟨w.heap.size,0,none⟩ _ (HET.out.below (zb.alloc zl _))).mono ?_;rintro e w2⟨rfl,hw2⟩
  have hb2:Below w.heap.size w w2:=by
   rw[hw2];exact(((zb.alloc zl _).alloc (by simp) _).alloc (by simp;omega) _).alloc (by simp;omega) _
  clear hw2;go_wp2;go_ret;exact⟨rfl,hb2⟩
 ·have HC1:=zh hc1
  clear hc0 hc1;rw[Zx];go_enter func66,ntmps66;go_wp2_with fail;refine(Zi ⟨b,0,none⟩ ⟨w.heap.size,0,none⟩ (.pointer none) _ (HET.out.below (zb.alloc zl _)) (by simp) (by simp)).mono ?_;rintro e w2⟨rfl,hw2⟩
  have hb2:Below w.heap.size w w2:=by
   rw[hw2];exact(((((zb.alloc zl _).alloc (by simp) _).alloc (by simp;omega) _).alloc (by simp;omega) _).alloc (by simp;omega) _).setCell (by simp) _
  have ct:w2.cell? ⟨w.heap.size,0,none⟩=some (.pointer (some ⟨b,0,none⟩)):=by
   rw[hw2];refine World.cell?_setCell_same' _ _ _ ?_;rw[World.cell?_alloc_lt _ _ ⟨w.heap.size,0,none⟩ (by simp;omega),World.cell?_alloc_lt _ _ ⟨w.heap.size,0,none⟩ (by simp;omega),World.cell?_alloc_lt _ _ ⟨w.heap.size,0,none⟩ (by simp;omega),World.cell?_alloc_lt _ _ ⟨w.heap.size,0,none⟩ (by simp)];simp
  clear hw2;have c1:=(hb2.cell (p:=⟨b,1,none⟩) hlt).trans HC1.out;go_wp2;go_ret;exact⟨rfl,hb2⟩
def Zm:Option Nat→Value
 | some i=>Gl.getD i .nilFunc
 | none=>.nilFunc
theorem zFc(j:Option Nat)(s:List UInt8)(hs:s.length≤maxLen)(hj:zCh s=j)(W:World)(mb:Nat)(hF:Hb prog 9 Gl W mb zCh 5) :
 (Instr.lookup 170 (.map (some mb)) (.string ⟨s.toArray⟩) true).run prog W=.ok (.tuple #[Zm j,.bool j.isSome]) W:=by
 have h:=Xr hF underlying9 underlying170 Jw (z:=.nilFunc) (jz:=5) (by simp[Gl]) rfl (zJa W) s hs;rw[hj] at h
 cases j<;>exact h
theorem zHz{w:World}{B n:Nat}{ws:List (List UInt8)}(hr:Ac w (some ⟨B,0,none⟩) (Ad ws))(hn:ws.length=n):∃av:Option Addr,(if n=1 then some ⟨B,0,none⟩ else some ⟨B,1,none⟩)=av∧Ac w av (Ad (ws.drop 1)):=by
 refine⟨_,rfl,?_⟩
 by_cases h1:n=1
 ·rw[if_pos h1]
  have:ws.drop 1=[]:=List.drop_eq_nil_of_le (by omega);rw[this];have:=hr.take 0;rw[List.take_zero] at this;exact this
 ·rw[if_neg h1]
  have h2:=hr.drop 1;have e:(Ad ws).drop 1=Ad (ws.drop 1):=by simp[Ad]
  rw[e] at h2;exact h2
theorem zD3(ea:Nat→Addr)(base pb:Nat)(Y:YL)(y:YP)(line:List UInt8)(k:Nat)(dn:List (List UInt8))(w:World)(hE:Lg ea base w)(h:Cf w base pb Y y)(hI:Fg k y dn)(hk:k≤200)(hl:line.length≤150) :
 Calls prog 65 #[.pointer (some ⟨pb,0,none⟩),.string ⟨line.toArray⟩] w (H6 ea base pb Y (y.play line) w):=by
 obtain⟨hG,hT⟩:=hE.now;have KS:=zh (Hy 32 line w hT (by omega));obtain⟨ws,hws⟩:∃ws,ws=Az 32 line:=⟨_,rfl⟩
 have hne:ws≠[]:=by rw[hws];exact F7 32 line
 have hpc:∀x∈ws,x.length≤150:=fun x hx=>by rw[hws] at hx;exact Nat.le_trans (Cz 32 line x hx) hl
 have hlen:ws.length≤151:=by rw[hws];exact Nat.le_trans (Ch 32 line) (by omega)
 obtain⟨W1,hW1⟩:∃W,W=w.alloc (.cells (Ad ws).toArray 9):=⟨_,rfl⟩
 have hb1:Below w.heap.size w W1:=by rw[hW1];exact zb.alloc zl _
 have hr1:Ac W1 (some ⟨w.heap.size,0,none⟩) (Ad ws):=by rw[hW1];exact Ac.new_at w _ _ _ rfl
 have hlt:w.heap.size<W1.heap.size:=by rw[hW1];simp
 rw[←hws,←hW1] at KS;obtain⟨n,hn⟩:∃n,n=ws.length:=⟨_,rfl⟩
 have hn0:0<n:=by rw[hn];exact List.length_pos_iff.2 hne
 rw[←hn] at KS hlen;have HD:Hid (y.play line=if ws.getD 0 []=Tq then y.cutP (ws.drop 1) else if ws.getD 0 []=Kf then y.againP (ws.drop 1) else if ws.getD 0 []=Tu then y.midP (ws.drop 1) else if ws.getD 0 []=Og then y.nextP (ws.drop 1) else if ws.getD 0 []=Ox then y.textP (ws.drop 1) else y.doF line):=by unfold Hid;rw[YP.play,←hws]
 have q0:W1.cell? ⟨w.heap.size,0,none⟩=some (.string ⟨(ws.getD 0 []).toArray⟩):=by
  have:=hr1.cell (i:=0) (v:=.string ⟨(ws.getD 0 []).toArray⟩) (by
   obtain⟨x,r,e⟩:=List.exists_cons_of_ne_nil hne
   rw[e];rfl)
  simpa using this
 have hw0l:(ws.getD 0 []).length≤maxLen:=by
  obtain⟨x,r,e⟩:=List.exists_cons_of_ne_nil hne;have:=hpc x (by rw[e];simp);rw[e];simp only[List.getD_cons_zero];unfold maxLen;omega
 have KLK:=zh (fun(j:Option Nat) (hj:zCh (ws.getD 0 [])=j)=>zFc j (ws.getD 0 []) hw0l hj);have hdr:Below W1.heap.size W1 W1.drew:=zb.drew;have k0:=(hdr.cell (p:=⟨w.heap.size,0,none⟩) hlt).trans q0;have hbd:w.heap.size<W1.drew.heap.size:=Nat.lt_of_lt_of_le hlt hdr.size;have hvd:=Ar hb1 hdr;obtain⟨av,hav,hra⟩:=zHz hr1 hn.symm;have hEE:∀W,Below w.heap.size w W→Lg ea base W:=fun W hb=>hE.later (hb.mono h.size)
 obtain⟨m,hmn⟩:∃m,m=n-1:=⟨_,rfl⟩
 have hm:(ws.drop 1).length=m:=by rw[List.length_drop,←hn,hmn]
 have hpc1:∀x∈ws.drop 1,x.length≤1000000:=fun x hx=>Nat.le_trans (hpc x (List.mem_of_mem_drop hx)) (by decide)
 have hpc9:∀x∈ws.drop 1,x.length≤900000:=fun x hx=>Nat.le_trans (hpc x (List.mem_of_mem_drop hx)) (by decide)
 have hrr:∀W,Below W1.heap.size W1 W→Ac W av (Ad (ws.drop 1)):=fun W hb=>hra.below hb
 have hbb:∀W,Below W1.heap.size W1 W→Below w.heap.size w W:=fun W hb=>Ar hb1 hb
 have hmb:m≤150:=by omega
 have K0:=zh (fun(W:World) (hb:Below W1.heap.size W1 W)=>zHc ea base pb Y y av m m (ws.drop 1) W (hEE W (hbb W hb)) (h.below (hbb W hb)) hm (hrr W hb) hpc1 (by omega));have K1:=zh (fun(W:World) (hb:Below W1.heap.size W1 W)=>zAt ea base pb Y y av m m (ws.drop 1) dn k W (hEE W (hbb W hb)) (h.below (hbb W hb)) hI hk hm);have K2:=zh (fun(W:World) (hb:Below W1.heap.size W1 W)=>zHd ea base pb Y y av m m (ws.drop 1) W (hEE W (hbb W hb)) (h.below (hbb W hb)) hm (hrr W hb) hpc1 (by omega));have K3:=zh (fun(W:World) (hb:Below W1.heap.size W1 W)=>zD2 ea base pb Y y av m m (ws.drop 1) W (hEE W (hbb W hb)) (h.below (hbb W hb)) hm (hrr W hb) hpc9 zl);have K4:=zh (fun(W:World) (hb:Below W1.heap.size W1 W)=>zD4 ea base pb Y y av m m (ws.drop 1) W (hEE W (hbb W hb)) (h.below (hbb W hb)) hm);have KDO:=zh (fun(W:World) (hb:Below W1.heap.size W1 W)=>zI9 ea base Y y line W (hEE W (hbb W hb)) (h.below (hbb W hb)).yard (by omega));have HP0:=zh (fun(W:World) (hb:Below W1.heap.size W1 W)=>(h.below (hbb W hb)).blk.cell 0 rfl);have H:=zh h;have HBB:=zh hbb;have HDR:=zh hdr;have HAV:=zh hav;generalize ws.getD 0 []=w0 at *;clear hws hne hpc hlen hW1 hb1 hr1 hn hE h hI hk hl hG hT hw0l q0 hdr hvd hra hEE hm hpc1 hpc9 hrr hbb hmb hav;have i1:(1:Int)≤(n:Int):=by omega
 by_cases e0:w0=Tq
 ·have HS:Hid (y.play line=y.cutP (ws.drop 1)):=by unfold Hid;rw[HD.out];rw[if_pos e0]
  have KL:=zh (KLK.out (some 0) (by rw[e0];decide));clear HD KLK e0 K1 K2 K3 K4 KDO HP0;go_enter func65,ntmps65;go_wp2_with fail;refine KS.out.mono ?_;rintro e wx⟨rfl,rfl⟩;go_wp2
  go_region_held3 (fun w'=>w'.cell? ⟨w.heap.size,0,none⟩=some (.string ⟨w0.toArray⟩)) (go_keep)
   ((go_at_call 111;(with_reducible refine(Hx _).mono ?_);rintro e w2⟨mb,rfl,hF2,hb2⟩;have d0:=(hb2.cell (p:=⟨w.heap.size,0,none⟩) hbd).trans k0;have kl:=KL.out w2 mb hF2;simp only[Zm,Gl,List.getD_cons_zero,Option.isSome_some] at kl;clear hF2))
  have hv2:=Ar HDR.out hb2;have KC:=zh (K0.out w2 hv2);have HV:=zh (HBB.out w2 hv2);clear kl d0 k0 hb2 KL hv2
  by_cases hn1:n=1
  ·subst hn1
   obtain rfl:=HAV.out;obtain rfl:=hmn;go_wp2_with fail;refine KC.out.mono ?_;rintro e w3⟨Y',t,v,pl,rfl,hE3,ht,hP3,hF3⟩;go_wp2;go_ret2;rw[HS.out];exact⟨Y',t,v,pl,rfl,hE3,ht,hP3,H.out.pre HV.out hF3⟩
  ·have HAW:=HAV.out
   rw[if_neg hn1] at HAW;subst HAW hmn;go_wp2_with fail;refine KC.out.mono ?_;rintro e w3⟨Y',t,v,pl,rfl,hE3,ht,hP3,hF3⟩;go_wp2;go_ret2;rw[HS.out];exact⟨Y',t,v,pl,rfl,hE3,ht,hP3,H.out.pre HV.out hF3⟩
 by_cases e1:w0=Kf
 ·have HS:Hid (y.play line=y.againP (ws.drop 1)):=by unfold Hid;rw[HD.out];rw[if_neg e0];rw[if_pos e1]
  have KL:=zh (KLK.out (some 1) (by rw[e1];decide));clear HD KLK e1 e0 K0 K2 K3 K4 KDO HP0;go_enter func65,ntmps65;go_wp2_with fail;refine KS.out.mono ?_;rintro e wx⟨rfl,rfl⟩;go_wp2
  go_region_held3 (fun w'=>w'.cell? ⟨w.heap.size,0,none⟩=some (.string ⟨w0.toArray⟩)) (go_keep)
   ((go_at_call 111;(with_reducible refine(Hx _).mono ?_);rintro e w2⟨mb,rfl,hF2,hb2⟩;have d0:=(hb2.cell (p:=⟨w.heap.size,0,none⟩) hbd).trans k0;have kl:=KL.out w2 mb hF2;simp only[Zm,Gl,List.getD_cons_zero,List.getD_cons_succ,Option.isSome_some] at kl;clear hF2))
  have hv2:=Ar HDR.out hb2;have KC:=zh (K1.out w2 hv2);have HV:=zh (HBB.out w2 hv2);clear kl d0 k0 hb2 KL hv2
  by_cases hn1:n=1
  ·subst hn1
   obtain rfl:=HAV.out;obtain rfl:=hmn;go_wp2_with fail;refine KC.out.mono ?_;rintro e w3⟨Y',t,v,pl,rfl,hE3,ht,hP3,hF3⟩;go_wp2;go_ret2;rw[HS.out];exact⟨Y',t,v,pl,rfl,hE3,ht,hP3,H.out.pre HV.out hF3⟩
  ·have HAW:=HAV.out
   rw[if_neg hn1] at HAW;subst HAW hmn;go_wp2_with fail;refine KC.out.mono ?_;rintro e w3⟨Y',t,v,pl,rfl,hE3,ht,hP3,hF3⟩;go_wp2;go_ret2;rw[HS.out];exact⟨Y',t,v,pl,rfl,hE3,ht,hP3,H.out.pre HV.out hF3⟩
 by_cases e2:w0=Tu
 ·have HS:Hid (y.play line=y.midP (ws.drop 1)):=by unfold Hid;rw[HD.out];rw[if_neg e0];rw[if_neg e1];rw[if_pos e2]
  have KL:=zh (KLK.out (some 2) (by rw[e2];decide));clear HD KLK e2 e0 e1 K0 K1 K3 K4 KDO HP0;go_enter func65,ntmps65;go_wp2_with fail;refine KS.out.mono ?_;rintro e wx⟨rfl,rfl⟩;go_wp2
  go_region_held3 (fun w'=>w'.cell? ⟨w.heap.size,0,none⟩=some (.string ⟨w0.toArray⟩)) (go_keep)
   ((go_at_call 111;(with_reducible refine(Hx _).mono ?_);rintro e w2⟨mb,rfl,hF2,hb2⟩;have d0:=(hb2.cell (p:=⟨w.heap.size,0,none⟩) hbd).trans k0;have kl:=KL.out w2 mb hF2;simp only[Zm,Gl,List.getD_cons_zero,List.getD_cons_succ,Option.isSome_some] at kl;clear hF2))
  have hv2:=Ar HDR.out hb2;have KC:=zh (K2.out w2 hv2);have HV:=zh (HBB.out w2 hv2);clear kl d0 k0 hb2 KL hv2
  by_cases hn1:n=1
  ·subst hn1
   obtain rfl:=HAV.out;obtain rfl:=hmn;go_wp2_with fail;refine KC.out.mono ?_;rintro e w3⟨Y',t,v,pl,rfl,hE3,ht,hP3,hF3⟩;go_wp2;go_ret2;rw[HS.out];exact⟨Y',t,v,pl,rfl,hE3,ht,hP3,H.out.pre HV.out hF3⟩
  ·have HAW:=HAV.out
   rw[if_neg hn1] at HAW;subst HAW hmn;go_wp2_with fail;refine KC.out.mono ?_;rintro e w3⟨Y',t,v,pl,rfl,hE3,ht,hP3,hF3⟩;go_wp2;go_ret2;rw[HS.out];exact⟨Y',t,v,pl,rfl,hE3,ht,hP3,H.out.pre HV.out hF3⟩
 by_cases e3:w0=Og
 ·have HS:Hid (y.play line=y.nextP (ws.drop 1)):=by unfold Hid;rw[HD.out];rw[if_neg e0];rw[if_neg e1];rw[if_neg e2];rw[if_pos e3]
  have KL:=zh (KLK.out (some 3) (by rw[e3];decide));clear HD KLK e3 e0 e1 e2 K0 K1 K2 K4 KDO HP0;go_enter func65,ntmps65;go_wp2_with fail;refine KS.out.mono ?_;rintro e wx⟨rfl,rfl⟩;go_wp2
  go_region_held3 (fun w'=>w'.cell? ⟨w.heap.size,0,none⟩=some (.string ⟨w0.toArray⟩)) (go_keep)
   ((go_at_call 111;(with_reducible refine(Hx _).mono ?_);rintro e w2⟨mb,rfl,hF2,hb2⟩;have d0:=(hb2.cell (p:=⟨w.heap.size,0,none⟩) hbd).trans k0;have kl:=KL.out w2 mb hF2;simp only[Zm,Gl,List.getD_cons_zero,List.getD_cons_succ,Option.isSome_some] at kl;clear hF2))
  have hv2:=Ar HDR.out hb2;have KC:=zh (K3.out w2 hv2);have HV:=zh (HBB.out w2 hv2);clear kl d0 k0 hb2 KL hv2
  by_cases hn1:n=1
  ·subst hn1
   obtain rfl:=HAV.out;obtain rfl:=hmn;go_wp2_with fail;refine KC.out.mono ?_;rintro e w3⟨Y',t,v,pl,rfl,hE3,ht,hP3,hF3⟩;go_wp2;go_ret2;rw[HS.out];exact⟨Y',t,v,pl,rfl,hE3,ht,hP3,H.out.pre HV.out hF3⟩
  ·have HAW:=HAV.out
   rw[if_neg hn1] at HAW;subst HAW hmn;go_wp2_with fail;refine KC.out.mono ?_;rintro e w3⟨Y',t,v,pl,rfl,hE3,ht,hP3,hF3⟩;go_wp2;go_ret2;rw[HS.out];exact⟨Y',t,v,pl,rfl,hE3,ht,hP3,H.out.pre HV.out hF3⟩
 by_cases e4:w0=Ox
 ·have HS:Hid (y.play line=y.textP (ws.drop 1)):=by unfold Hid;rw[HD.out];rw[if_neg e0];rw[if_neg e1];rw[if_neg e2];rw[if_neg e3];rw[if_pos e4]
  have KL:=zh (KLK.out (some 4) (by rw[e4];decide));clear HD KLK e4 e0 e1 e2 e3 K0 K1 K2 K3 KDO HP0;go_enter func65,ntmps65;go_wp2_with fail;refine KS.out.mono ?_;rintro e wx⟨rfl,rfl⟩;go_wp2
  go_region_held3 (fun w'=>w'.cell? ⟨w.heap.size,0,none⟩=some (.string ⟨w0.toArray⟩)) (go_keep)
   ((go_at_call 111;(with_reducible refine(Hx _).mono ?_);rintro e w2⟨mb,rfl,hF2,hb2⟩;have d0:=(hb2.cell (p:=⟨w.heap.size,0,none⟩) hbd).trans k0;have kl:=KL.out w2 mb hF2;simp only[Zm,Gl,List.getD_cons_zero,List.getD_cons_succ,Option.isSome_some] at kl;clear hF2))
  have hv2:=Ar HDR.out hb2;have KC:=zh (K4.out w2 hv2);have HV:=zh (HBB.out w2 hv2);clear kl d0 k0 hb2 KL hv2
  by_cases hn1:n=1
  ·subst hn1
   obtain rfl:=HAV.out;obtain rfl:=hmn;go_wp2_with fail;refine KC.out.mono ?_;rintro e w3⟨Y',t,v,pl,rfl,hE3,ht,hP3,hF3⟩;go_wp2;go_ret2;rw[HS.out];exact⟨Y',t,v,pl,rfl,hE3,ht,hP3,H.out.pre HV.out hF3⟩
  ·have HAW:=HAV.out
   rw[if_neg hn1] at HAW;subst HAW hmn;go_wp2_with fail;refine KC.out.mono ?_;rintro e w3⟨Y',t,v,pl,rfl,hE3,ht,hP3,hF3⟩;go_wp2;go_ret2;rw[HS.out];exact⟨Y',t,v,pl,rfl,hE3,ht,hP3,H.out.pre HV.out hF3⟩
 have HS:Hid (y.play line=y.doF line):=by unfold Hid;rw[HD.out,if_neg e0,if_neg e1,if_neg e2,if_neg e3,if_neg e4]
 have KL:=zh (KLK.out none (by unfold zCh;rw[if_neg e4,if_neg e3,if_neg e2,if_neg e1,if_neg e0]));clear HD KLK e0 e1 e2 e3 e4 K0 K1 K2 K3 K4 HAV hmn;go_enter func65,ntmps65;go_wp2_with fail;refine KS.out.mono ?_;rintro e wx⟨rfl,rfl⟩;go_wp2
 go_region_held3 (fun w'=>w'.cell? ⟨w.heap.size,0,none⟩=some (.string ⟨w0.toArray⟩)) (go_keep)
  ((go_at_call 111;(with_reducible refine(Hx _).mono ?_);rintro e w2⟨mb,rfl,hF2,hb2⟩;have d0:=(hb2.cell (p:=⟨w.heap.size,0,none⟩) hbd).trans k0;have kl:=KL.out w2 mb hF2;simp only[Zm,Option.isSome_none] at kl;clear hF2))
 have hv2:=Ar HDR.out hb2;have KC:=zh (KDO.out w2 hv2);have p0:=HP0.out w2 hv2;have HV:=zh (HBB.out w2 hv2);clear kl d0 k0 hb2 KL hv2;go_wp2_with fail;refine KC.out.mono ?_;rintro e w3⟨Y',rfl,hY3,hS3⟩;have HY3:=zh hY3;have HS3:=zh hS3;clear hY3 hS3;go_wp2;go_ret2;rw[HS.out];obtain⟨q1,q2⟩:=H.out.step HV.out HS3.out HY3.out;exact⟨Y',_,_,-1,rfl,Bg.bare ea _ _,fun _=>rfl,q1,q2⟩
end Go.Proofs.YtppfkokfnoeopaaGreatDoor
