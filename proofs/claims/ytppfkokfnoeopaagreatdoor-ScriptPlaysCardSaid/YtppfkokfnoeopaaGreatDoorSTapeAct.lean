/- A part of a proof. -/
import Derived.Lib.AppendStr
import Derived.Lib.ConvBytes
import Derived.Lib.BufferRead
import Derived.Lib.AtoiErrMem
import Derived.Laws.IdiomStrings
import Derived.RegionTactic
import Derived.Deep.RegionHeld3
import Derived.Lib.IndexBytes
import Derived.Lib.IndexMore
import Derived.Test.YtppfkokfnoeopaaGreatDoorSTxt
set_option maxRecDepth 400000
set_option maxHeartbeats 6400000
namespace Go.Proofs.YtppfkokfnoeopaaGreatDoor
open Go.RowKit Go.Lib Go.Proofs.Tryz
theorem zH6:(prog.info? 5).map (fun i=>(i.zero,i.size,i.bytes))=some (some (.int .u8 0),1,1):=by kernel_rfl
def zBc(fz:Nat×Nat)(size:Nat):Prop:=∀j,j<size→¬(fz.1≤j∧j<fz.2)
def Eg(w:World)(base:Nat)(v:Value)(bs:List UInt8):Prop:=
 (v=.slice none 0 0∧bs=[])∨∃g cap cur fz,v=.slice (some ⟨g,0,none⟩) bs.length cap∧base≤g∧w.heap[g]?=some (.cells cur 5 fz)∧bs.length≤cap∧cap≤maxLen∧cap≤cur.size∧cur.toList.take bs.length=strCells ⟨bs.toArray⟩∧zBc fz cur.size
def F4(w:World)(D k:Nat):Prop:=k=D∨∃v x y,w.heap[D]?=some (.cells #[v,x,y] 104 (0,0))∧v.ownBlock=some k
structure Ec(base D:Nat)(w w':World):Prop where
 below:Below base w w'
 kept:∀(k:Nat) (c:Array Value) (t:TypeId) (fz:Nat×Nat),w.heap[k]?=some (Obj.cells c t fz)→t≠5→t≠104→w'.heap[k]?=some (Obj.cells c t fz)
 own:∀k,k<w.heap.size→¬F4 w D k→w'.heap[k]?=w.heap[k]?
 mv:∀k,k<w.heap.size→F4 w' D k→F4 w D k
theorem Ec.refl(base D:Nat)(w:World):Ec base D w w:=⟨Below.refl _ _,fun _ _ _ _ h _ _=>h,fun _ _ _=>rfl,fun _ _ h=>h⟩
theorem Ec.trans{base D:Nat}{a b c:World}(h:Ec base D a b)(k:Ec base D b c):Ec base D a c:=
 ⟨h.below.trans k.below,fun i c t fz hi h1 h2=>k.kept i c t fz (h.kept i c t fz hi h1 h2) h1 h2,
  fun i hi hn=>(k.own i (Nat.lt_of_lt_of_le hi h.below.size) (fun hx=>hn (h.mv i hi hx))).trans (h.own i hi hn),fun i hi hx=>h.mv i hi (k.mv i (Nat.lt_of_lt_of_le hi h.below.size) hx)⟩
theorem F4.same{w w':World}{D k:Nat}(e:w'.heap[D]?=w.heap[D]?)(h:F4 w' D k):F4 w D k:=by
 rcases h with h|⟨v,x,y,h1,h2⟩
 ·exact Or.inl h
 ·exact Or.inr ⟨v,x,y,e▸h1,h2⟩
theorem Ec.of{base D:Nat}{w w':World}(h:Below w.heap.size w w')(hb:base≤w.heap.size)(hD:D<w.heap.size):Ec base D w w':=
 ⟨h.mono hb,fun k _ _ _ hk _ _=>(h.block k (Array.getElem?_eq_some_iff.1 hk).1).trans hk,fun k hk _=>h.block k hk,fun _ _ hx=>hx.same (h.block D hD)⟩
theorem Ec.size{base D:Nat}{w w':World}(h:Ec base D w w'):w.heap.size≤w'.heap.size:=h.below.size
theorem Eg.kept{w w':World}{base:Nat}{v:Value}{bs:List UInt8}(h:Eg w base v bs)(hk:∀g,v.ownBlock=some g→w'.heap[g]?=w.heap[g]?):Eg w' base v bs:=by
 rcases h with h|⟨g,cap,cur,fz,rfl,h1,h2,h3⟩
 ·exact Or.inl h
 ·exact Or.inr ⟨g,cap,cur,fz,rfl,h1,(hk g rfl).trans h2,h3⟩
theorem Eg.lt{w:World}{base:Nat}{v:Value}{bs:List UInt8}(h:Eg w base v bs):∀g,v.ownBlock=some g→g<w.heap.size:=by
 intro g hg
 rcases h with⟨rfl,_⟩|⟨g',cap,cur,fz,rfl,h1,h2,_⟩
 ·simp[Value.ownBlock] at hg
 ·simp[Value.ownBlock] at hg;subst hg;exact(Array.getElem?_eq_some_iff.1 h2).1
theorem Eg.below{w w':World}{base:Nat}{v:Value}{bs:List UInt8}(h:Eg w base v bs)(hb:Below w.heap.size w w'):Eg w' base v bs:=h.kept fun g hg=>hb.block g (h.lt g hg)
theorem Eg.shape{w:World}{base:Nat}{v:Value}{bs:List UInt8}(h:Eg w base v bs):∃a cap,v=.slice a bs.length cap:=by
 rcases h with⟨rfl,rfl⟩|⟨g,cap,cur,fz,rfl,_⟩
 ·exact⟨none,0,rfl⟩
 ·exact⟨_,cap,rfl⟩
theorem Eg.bytes{w:World}{base:Nat}{v:Value}{bs:List UInt8}(h:Eg w base v bs):∀g,v.ownBlock=some g→base≤g∧∃cur fz,w.heap[g]?=some (.cells cur 5 fz):=by
 intro g hg
 rcases h with⟨rfl,_⟩|⟨g',cap,cur,fz,rfl,h1,h2,_⟩
 ·simp[Value.ownBlock] at hg
 ·simp[Value.ownBlock] at hg;subst hg;exact⟨h1,cur,fz,h2⟩
theorem M0(w:World)(bs:List UInt8)(h:bs.length≤262144) :
 ∃cap,(convert 9 102 (.string ⟨bs.toArray⟩)).run prog w=.ok (.slice (some ⟨w.heap.size,0,none⟩) bs.length cap) (bytesWorld w 5 ⟨bs.toArray⟩) ∧
  Eg (bytesWorld w 5 ⟨bs.toArray⟩) w.heap.size (.slice (some ⟨w.heap.size,0,none⟩) bs.length cap) bs∧Below w.heap.size w (bytesWorld w 5 ⟨bs.toArray⟩):=by
 have hsz:(⟨bs.toArray⟩:ByteArray).size=bs.length:=rfl;have h0:=grownCap_ge w bs.length 0 5;have h1:grownCap w bs.length 0 5≤maxLen:=grownCap_le_maxLen w bs.length 0 5 (by unfold maxLen;omega);refine⟨grownCap w bs.length 0 5,Lib.run_convert_string_bytes w 9 102 5 ⟨bs.toArray⟩ underlying9 underlying102 underlying5,Or.inr ⟨w.heap.size,_,_,_,rfl,Nat.le_refl _,bytesWorld_at_new w 5 ⟨bs.toArray⟩,h0,h1,?_,?_,?_⟩,bytesWorld_below _ _ _⟩
 ·simp[bytesCells,hsz]<;>omega
 ·simp only[bytesCells,Array.toList_append]
  rw[List.take_append_of_le_length (by simp)];rw[List.take_of_length_le (by simp)];simp[strCells]
 ·intro j hj ⟨h2,h3⟩;simp only at h2;omega
theorem Hd(P:Program)(g o:Nat)(t:TypeId)(fz:Nat×Nat)(size:Nat)(hfz:zBc fz size):∀(vs:List Value) (i:Nat) (cur:Array Value) (w:World),cur.size=size→w.heap[g]?=some (.cells cur t fz)→o+i+vs.length≤cur.size→(∀v∈vs,v.oneCell'=true)→
 (storeCells ⟨g,o,none⟩ vs i).run P w=.ok () (w.setRow g (cur.toList.take (o+i)++vs++cur.toList.drop (o+i+vs.length)).toArray)
 | [],i,cur,w,_,hg,_,_=>by
  simp only[storeCells,List.append_nil,List.length_nil,Nat.add_zero,List.take_append_drop,Array.toArray_toList];rw[setRow_self w g cur t fz hg]
  rfl
 | v::rest,i,cur,w,hsz,hg,hl,h1=>by
  have hi:o+i<cur.size:=by simp at hl;omega
  have hadd:(⟨g,o,none⟩:Addr).add i=⟨g,o+i,none⟩:=by unfold Addr.add;split<;>simp_all
  have hcell:w.cell? ⟨g,o+i,none⟩=some cur[o+i]:=by simp[World.cell?,hg,hi]
  have hfro:w.frozen? ⟨g,o+i,none⟩=false:=by
   have:=hfz (o+i) (by omega);simp only[World.frozen?,hg];simp only[Bool.and_eq_false_iff,decide_eq_false_iff_not];omega
  have hst:(store ((⟨g,o,none⟩:Addr).add i) v).run P w=.ok () (w.setRow g (cur.setIfInBounds (o+i) v)):=by
   rw[hadd,run_store P w _ v _ (h1 v (by simp)),hcell];simp[hfro,setCell_eq_setRow w g (o+i) cur t fz v hg]
  have ih:=Hd P g o t fz size hfz rest (i+1) (cur.setIfInBounds (o+i) v) (w.setRow g (cur.setIfInBounds (o+i) v)) (by simpa using hsz) (setRow_heap w g cur _ t _ hg) (by simp at hl ⊢;omega) (fun x hx=>h1 x (by simp[hx]));simp only[storeCells,Sem.run_bind,hst,Result.andThen_ok,ih,setRow_setRow]
  congr 3
  have e:=list_seg_step cur.toList (o+i) v rest (by simp at hl ⊢;omega);simpa[Array.toList_setIfInBounds,Nat.add_assoc] using e
theorem G9(w:World)(base:Nat)(ty:TypeId)(v:Value)(bs s:List UInt8)(hv:Eg w base v bs)(hl:bs.length+s.length≤1000000)(hbase:base≤w.heap.size) :
 ∃v' w',(Builtin.append_ #[102,9] ty #[v,.string ⟨s.toArray⟩]).run prog w=.ok v' w'∧Eg w' base v' (bs++s)∧w.grownBy w' v.ownBlock∧(v'.ownBlock=v.ownBlock∨∀g,v'.ownBlock=some g→w.heap.size≤g):=by
 obtain⟨i,hi,hz0,hz1,hz2⟩:=info_parts zH6;have hsz:(⟨s.toArray⟩:ByteArray).size=s.length:=rfl;have hcat:strCells ⟨(bs++s).toArray⟩=strCells ⟨bs.toArray⟩++strCells ⟨s.toArray⟩:=by simp[strCells]
 have hlb:(strCells ⟨bs.toArray⟩).length=bs.length:=by simp[strCells]
 have hls:(strCells ⟨s.toArray⟩).length=s.length:=by simp[strCells]
 have ofRow:∀{W:World} {u:Value} {k:Nat} {xs:List Value},W.ownsRow w.heap.size 5 1 u k xs→k=(bs++s).length→xs=strCells ⟨(bs++s).toArray⟩→Eg W base u (bs++s):=by
  intro W u k xs h hk hx
  rcases h.2 with⟨rfl,h0⟩|⟨g,cap,cur,rfl,h1,h2,h3,h4,h5,h6⟩
  ·refine Or.inl ⟨rfl,List.eq_nil_of_length_eq_zero (by omega)⟩
  ·subst hk
   refine Or.inr ⟨g,cap,cur,(0,0),rfl,by omega,h2,h3,h4,by omega,?_,fun j _ hh=>by simp at hh⟩;rw[←hx,←h6,Nat.mul_one]
 rcases hv with⟨rfl,rfl⟩|⟨g,cap,cur,fz,rfl,h1,h2,h3,h4,h5,h6,h7⟩
 ·obtain⟨v',w',r1,r2,r3,r4⟩:=run_append_own_string (P:=prog) w w.heap.size 102 9 ty 5 i underlying102 underlying9 hi hz0 hz1 hz2 (.slice none 0 0) 0 [] (World.ownsRow_nil _ _ _ _) ⟨s.toArray⟩ (by rw[hsz];unfold maxLen;omega) (by rw[hsz];omega) zl
  refine⟨v',w',r1,ofRow r2 (by rw[hsz];simp) (by simp),r3,?_⟩
  right
  intro g hg
  rcases r2.2 with⟨rfl,_⟩|⟨g',cap,cur,rfl,q1,q2,_⟩
  ·simp[Value.ownBlock] at hg
  ·simp[Value.ownBlock] at hg;omega
 ·by_cases hroom:bs.length+s.length≤cap
  ·have hf:=run_firstCells_string (P:=prog) w 1 ⟨s.toArray⟩
   have hst:=Hd prog g bs.length 5 fz cur.size h7 (strCells ⟨s.toArray⟩) 0 cur w rfl h2 (by rw[hls];omega) (strCells_oneCell _);simp only[Nat.add_zero,hls] at hst;refine⟨_,w.setRow g (cur.toList.take bs.length++strCells ⟨s.toArray⟩++cur.toList.drop (bs.length+s.length)).toArray,?_,Or.inr ⟨g,cap,_,fz,rfl,h1,setRow_heap w g cur _ _ _ h2,by simpa using hroom,h4,?_,?_,?_⟩,⟨rfl,rfl,rfl,by simp,fun k _ hk=>setRow_other w g k _ (fun e=>hk (by simp[Value.ownBlock,e]))⟩,Or.inl rfl⟩
   ·rw[hsz] at hf
    simp[Builtin.append_,run_underlying underlying102,run_underlying underlying9,sizeOf,typeInfo,hi,hz1,Builtin.lenOf,hsz,hroom,hf,Addr.add_lit,hst]
   ·simp only[List.size_toArray,List.length_append,List.length_take,List.length_drop,Array.length_toList,hls];omega
   ·rw[hcat,h6]
    rw[show(bs++s).length=(strCells ⟨bs.toArray⟩++strCells ⟨s.toArray⟩).length by simp[strCells]];exact List.take_left
   ·intro j hj
    simp only[List.size_toArray,List.length_append,List.length_take,List.length_drop,Array.length_toList,hls] at hj;exact h7 j (by omega)
  ·have holds:∀j u,(strCells ⟨bs.toArray⟩)[j]?=some u→w.cell? ((⟨g,0,none⟩:Addr).add j)=some u:=by
    intro j u hj;have hj':j<bs.length:=by have:=(List.getElem?_eq_some_iff.1 hj).1;omega
    rw[←h6,List.getElem?_take_of_lt hj'] at hj;simp only[Addr.add_lit,Nat.zero_add,World.cell?,h2];simpa using hj
   have hr:=run_append_grow_string (P:=prog) w 102 9 ty 5 i (.int .u8 0) underlying102 underlying9 hi hz0 ⟨g,0,none⟩ bs.length cap (strCells ⟨bs.toArray⟩) (by rw[hz1,hlb,Nat.mul_one]) holds ⟨s.toArray⟩ (by rw[hsz];omega) (by rw[hsz];omega) (by rw[hz2,hsz];exact growslice_fits (by omega) (by omega));have hge:=grownCap_ge w (bs.length+s.length) cap 5;have hcm:=grownCap_le_maxLen w (bs.length+s.length) cap 5 (by unfold maxLen;omega);rw[hsz] at hr;refine⟨_,_,hr,Or.inr ⟨w.heap.size,_,_,(0,0),by rw[List.length_append],hbase,heap_alloc_new w.drew _,by rw[List.length_append];exact hge,hcm,?_,?_,fun j _ hh=>by simp at hh⟩,⟨rfl,rfl,rfl,by simp,fun k hk _=>by first|exact heap_alloc_old w.drew _ hk|exact heap_alloc_old w.drew _ k hk⟩,Or.inr (fun g hg=>by simp[Value.ownBlock] at hg;omega)⟩
   ·have hz1:(Value.int IntKind.u8 0).cells.size=1:=rfl
    simp only[Array.size_append,List.size_toArray,size_zeroCells,hz1,hlb,hls];omega
   ·simp only[Array.toList_append,List.append_assoc]
    rw[←List.append_assoc,hcat];rw[show(bs++s).length=(strCells ⟨bs.toArray⟩++strCells ⟨s.toArray⟩).length by simp[strCells]];exact List.take_left
theorem M1(w:World)(base:Nat)(v:Value)(bs:List UInt8)(hv:Eg w base v bs) :
 (convert 102 9 v).run prog w=.ok (.string ⟨bs.toArray⟩) w:=by
 rcases hv with⟨rfl,rfl⟩|⟨g,cap,cur,fz,rfl,h1,h2,h3,h4,h5,h6,h7⟩
 ·exact run_convert_nil_bytes w 102 9 5 0 underlying102 underlying5 underlying9
 ·refine run_convert_bytes_back w 102 9 5 ⟨g,0,none⟩ cap bs underlying102 underlying5 underlying9 fun j hj=>?_
  have e1:(strCells ⟨bs.toArray⟩)[j]?=some (.int .u8 (bs[j].toNat:Int)):=by simp[strCells,hj]
  rw[←h6,List.getElem?_take_of_lt hj] at e1;simp only[Addr.add_lit,Nat.zero_add,World.cell?,h2];simpa using e1
theorem Eg.cut{w:World}{base g cap:Nat}{bs:List UInt8}(h:Eg w base (.slice (some ⟨g,0,none⟩) bs.length cap) bs){n:Nat}(hn:n≤bs.length):Eg w base (.slice (some ⟨g,0,none⟩) n n) (bs.take n):=by
 rcases h with⟨h,_⟩|⟨g',cap',cur,fz,e,h1,h2,h3,h4,h5,h6,h7⟩
 ·cases h
 ·simp only[Value.slice.injEq,Option.some.injEq,Addr.mk.injEq,and_true,true_and] at e
  obtain⟨rfl,rfl⟩:=e;have hl:(bs.take n).length=n:=by simp;omega
  refine Or.inr ⟨g,n,cur,fz,by rw[hl],h1,h2,by rw[hl];exact Nat.le_refl _,by omega,by omega,?_,h7⟩;rw[hl];have e2:=congrArg (List.take n) h6;rw[List.take_take,Nat.min_eq_left hn] at e2;rw[e2];simp[strCells]
theorem Eg.cut2{w:World}{base cv n:Nat}{av:Option Addr}{bs:List UInt8}(h:Eg w base (.slice av bs.length cv) bs)(hn:n≤bs.length):Eg w base (.slice av n n) (bs.take n)∧bs.length≤cv:=by
 have h':=h
 rcases h with⟨e,rfl⟩|⟨g',cap',cur,fz,e,h1,h2,h3,_⟩
 ·simp only[Value.slice.injEq] at e
  obtain⟨rfl,_,rfl⟩:=e;obtain rfl:n=0:=by simpa using hn
  exact⟨Or.inl ⟨rfl,rfl⟩,Nat.zero_le _⟩
 ·simp only[Value.slice.injEq,true_and] at e
  obtain⟨rfl,rfl⟩:=e;exact⟨h'.cut hn,h3⟩
end Go.Proofs.YtppfkokfnoeopaaGreatDoor
namespace Go.Proofs.YtppfkokfnoeopaaGreatDoor
open Go.RowKit Go.Proofs.Tryz
structure Dk where
 b:List UInt8
 off:Bool
 cut:Int
def Bo(w:World)(base D:Nat)(s:Dk):Prop:=base≤D∧s.b.length≤262144∧∃v,Af w D 104 #[v,.bool s.off,.int .i64 s.cut]∧Eg w base v s.b
theorem zH1{w:World}{D g:Nat}{cs cur:Array Value}{fz:Nat×Nat}(h:Af w D 104 cs)(hg:w.heap[g]?=some (.cells cur 5 fz)):g≠D:=by
 rintro rfl;rw[show w.heap[g]?=_ from h] at hg;simp at hg
theorem Eg.apart{w:World}{base D:Nat}{cs:Array Value}{v:Value}{bs:List UInt8}(hv:Eg w base v bs)(h:Af w D 104 cs):∀g,v.ownBlock=some g→g≠D:=fun g hg=>by
 obtain⟨_,cur,fz,hc⟩:=hv.bytes g hg;exact zH1 h hc
theorem Ec.setDisk{base:Nat}{w:World}{D:Nat}{v x y:Value}(h:Af w D 104 #[v,x,y])(hb:base≤D)(i:Nat)(u:Value)(hi:i≠0∨u.ownBlock=v.ownBlock):Ec base D w (w.setCell ⟨D,i,none⟩ u):=by
 have hset:=h.set i u;refine⟨zb.setCell hb _,fun k c t fz hk _ h2=>?_,fun k _ hn=>heap_setCell_other _ _ _ _ (by simpa using fun e=>hn (Or.inl e)),fun k _ hx=>?_⟩
 ·have hne:k≠D:=by
   rintro rfl;rw[show w.heap[k]?=_ from h] at hk;simp at hk;exact h2 hk.2.1.symm
  exact(heap_setCell_other _ _ _ _ (by simpa using hne)).trans hk
 ·rcases hx with hx|⟨v',x',y',h1,h2⟩
  ·exact Or.inl hx
  ·right
   rw[show(w.setCell ⟨D,i,none⟩ u).heap[D]?=_ from hset] at h1;injection h1 with h1;injection h1 with h1;refine⟨v,x,y,h,?_⟩
   match i,h1,hi with
   | 0,h1,hi=>
    have h3:u=v':=by simpa using congrArg (fun a:Array Value=>a.toList.headD undef) h1
    subst h3;rw[←hi.resolve_left (fun h=>h rfl)];exact h2
   | 1,h1,_=>
    have h3:v=v':=by simpa using congrArg (fun a:Array Value=>a.toList.headD undef) h1
    rw[h3];exact h2
   | 2,h1,_=>
    have h3:v=v':=by simpa using congrArg (fun a:Array Value=>a.toList.headD undef) h1
    rw[h3];exact h2
   | n+3,h1,_=>
    have h3:v=v':=by simpa[Array.setIfInBounds] using congrArg (fun a:Array Value=>a.toList.headD undef) h1
    rw[h3];exact h2
theorem Ec.grown{base D:Nat}{w w':World}{v x y:Value}{bs:List UInt8}(hK:Af w D 104 #[v,x,y])(hv:Eg w base v bs)(hg:w.grownBy w' v.ownBlock)(hb:base≤w.heap.size):Ec base D w w':=by
 refine⟨zb.grown hg hb (fun k hk=>(hv.bytes k hk).1),fun k c t fz hk h1 _=>?_,fun k hk hn=>hg.block k hk (fun e=>hn (Or.inr ⟨v,x,y,hK,e.symm⟩)),fun k _ hx=>hx.same (hg.block D hK.lt (fun e=>hv.apart hK D e.symm rfl))⟩;refine(hg.block k (Array.getElem?_eq_some_iff.1 hk).1 (fun e=>?_)).trans hk;obtain⟨_,cur,fz',hc⟩:=hv.bytes k e.symm;rw[hc] at hk;simp at hk;exact h1 hk.2.1.symm
theorem Ec.drew{base D:Nat}(w:World):Ec base D w w.drew:=⟨zb.drew,fun _ _ _ _ h _ _=>h,fun _ _ _=>rfl,fun _ _ h=>h⟩
theorem Bo.below{w w':World}{base D:Nat}{s:Dk}(h:Bo w base D s)(hb:Below w.heap.size w w'):Bo w' base D s:=by
 obtain⟨h1,h2,v,h3,h4⟩:=h;exact⟨h1,h2,v,h3.kept hb,h4.below hb⟩
theorem Bo.weak{w:World}{base base' D:Nat}{s:Dk}(h:Bo w base D s)(hb:base'≤base):Bo w base' D s:=by
 obtain⟨h1,h2,v,h3,h4⟩:=h;refine⟨by omega,h2,v,h3,?_⟩
 rcases h4 with h|⟨g,cap,cur,fz,e,q1,q2⟩
 ·exact Or.inl h
 ·exact Or.inr ⟨g,cap,cur,fz,e,by omega,q2⟩
theorem Bo.lt{w:World}{base D:Nat}{s:Dk}(h:Bo w base D s):D<w.heap.size:=by
 obtain⟨_,_,v,h3,_⟩:=h;exact h3.lt
theorem Bo.set{w:World}{base D:Nat}{v:Value}{b:List UInt8}{o:Bool}{c:Int}(hB:base≤D)(hl:b.length≤262144)(h:Af w D 104 #[v,.bool o,.int .i64 c])(hv:Eg w base v b) :
 (∀o',Bo (w.setCell ⟨D,1,none⟩ (.bool o')) base D ⟨b,o',c⟩)∧(∀c',Bo (w.setCell ⟨D,2,none⟩ (.int .i64 c')) base D ⟨b,o,c'⟩):=by
 have hk:∀i x,Eg (w.setCell ⟨D,i,none⟩ x) base v b:=fun i x=>hv.kept fun g hg=>heap_setCell_other _ _ _ _ (by simpa using hv.apart h g hg)
 exact⟨fun o'=>⟨hB,hl,v,by have:=h.set 1 (.bool o');simpa using this,hk _ _⟩,fun c'=>⟨hB,hl,v,by have:=h.set 2 (.int .i64 c');simpa using this,hk _ _⟩⟩
theorem Yc(bs:List UInt8)(w:World)(h:bs.length≤262144) :
 Calls prog 20 #[.string ⟨bs.toArray⟩] w fun e w'=>∃D,e=.returned (.tuple #[.pointer (some ⟨D,0,none⟩),.nilIface])∧Bo w' w.heap.size D ⟨bs,false,-1⟩∧Below w.heap.size w w':=by
 obtain⟨cap,hrun,hrow,hb⟩:=M0 w bs h;have hd:decide ((262144:Int)<(bs.length:Int))=false:=decide_eq_false (by omega);have hB:=hb.alloc hb.size (.cells #[.slice (some ⟨w.heap.size,0,none⟩) bs.length cap,.bool false,.int .i64 (-1)] 104);generalize Lib.bytesWorld w 5 ⟨bs.toArray⟩=w1 at *
 have hD:Bo (w1.alloc (.cells #[.slice (some ⟨w.heap.size,0,none⟩) bs.length cap,.bool false,.int .i64 (-1)] 104)) w.heap.size w1.heap.size ⟨bs,false,-1⟩:=
  ⟨hb.size,h,_,Af.new _ _ _,hrow.below (zb.alloc zl _)⟩
 go_enter func20,ntmps20;go_wp2;go_ret2;exact⟨_,rfl,hD,hB⟩
def Gx(s:Dk)(n:Int):Dk×Nat:=if n<0 then(s,2) else if s.off then(s,11) else(⟨s.b,s.off,n⟩,0)
theorem Xk(ea:Nat→Addr)(base D:Nat)(s:Dk)(n:Int)(w:World)(hg:Bh w ea [2,11])(hD:Bo w base D s) :
 Calls prog 201 #[.pointer (some ⟨D,0,none⟩),.int .i64 n] w fun e w'=>e=.returned (Bm ea (Gx s n).2)∧Bo w' base D (Gx s n).1∧Ec base D w w':=by
 have g2:=hg.cell 2 (by simp);have g11:=hg.cell 11 (by simp);simp only[gOf] at g2 g11;have hD':=hD;obtain⟨b,o,c⟩:=s;obtain⟨hB,hl,v,hK,hv⟩:=hD;have c1:=hK.cell 1 rfl;have c2:=hK.cell 2 rfl;have q2:=hK.frozen 2
 by_cases h:n<0
 ·have hF:Gx ⟨b,o,c⟩ n=(⟨b,o,c⟩,2):=by rw[Gx,if_pos h]
  rw[hF];go_enter func201,ntmps201;go_wp2;go_ret;exact⟨rfl,hD',Ec.refl _ _ _⟩
 ·cases o
  ·have hF:Gx ⟨b,false,c⟩ n=(⟨b,false,n⟩,0):=by rw[Gx,if_neg h];rfl
   rw[hF,Al];have hd:decide (n<0)=false:=decide_eq_false h;go_enter func201,ntmps201;go_wp2;go_ret;exact⟨rfl,(Bo.set hB hl hK hv).2 n,Ec.setDisk hK hB _ _ (Or.inl (by decide))⟩
  ·have hF:Gx ⟨b,true,c⟩ n=(⟨b,true,c⟩,11):=by rw[Gx,if_neg h];rfl
   rw[hF];have hd:decide (n<0)=false:=decide_eq_false h;go_enter func201,ntmps201;go_wp2;go_ret;exact⟨rfl,hD',Ec.refl _ _ _⟩
theorem Zq(base D:Nat)(s:Dk)(w:World)(hD:Bo w base D s) :
 Calls prog 108 #[.pointer (some ⟨D,0,none⟩)] w fun e w'=>e=.returned (.tuple #[])∧Bo w' base D ⟨s.b,false,-1⟩∧Ec base D w w':=by
 obtain⟨b,o,c⟩:=s;obtain⟨hB,hl,v,hK,hv⟩:=hD;have c1:=hK.cell 1 rfl;have c2:=hK.cell 2 rfl;have q1:=hK.frozen 1;have q2:=hK.frozen 2;go_enter func108,ntmps108;go_wp2;have h1:=(Bo.set hB hl hK hv).1 false;have hS:=Ec.setDisk hK hB 1 (.bool false) (Or.inl (by decide));have hK1:Af (w.setCell ⟨D,1,none⟩ (.bool false)) D 104 #[v,.bool false,.int .i64 c]:=by have:=hK.set 1 (.bool false);simpa using this
 have hv1:Eg (w.setCell ⟨D,1,none⟩ (.bool false)) base v b:=hv.kept fun g hg=>heap_setCell_other _ _ _ _ (by simpa using hv.apart hK g hg)
 refine bodyPost_end (results_none rfl _ _ _) rfl ?_;exact⟨rfl,(Bo.set hB hl hK1 hv1).2 (-1),hS.trans (Ec.setDisk hK1 hB _ _ (Or.inl (by decide)))⟩
def wrF(s:Dk)(t:List UInt8):Dk×Nat:=
 if s.off then(s,11) else if 0≤s.cut∧s.cut<t.length then(⟨s.b++t.take s.cut.toNat,true,s.cut⟩,11) else(⟨s.b++t,false,if 0≤s.cut then s.cut-t.length else s.cut⟩,0)
theorem Ro{w w1:World}{base D:Nat}{v v':Value}{b t:List UInt8}{o:Bool}{c:Int}(hB:base≤D)(hb:base≤w.heap.size)(hK:Af w D 104 #[v,.bool o,.int .i64 c])(hv:Eg w base v b)(hl:(b++t).length≤262144)
 (h1:Eg w1 base v' (b++t)) (hg:w.grownBy w1 v.ownBlock) (hmv:v'.ownBlock=v.ownBlock∨∀g,v'.ownBlock=some g→w.heap.size≤g) :
 Af w1 D 104 #[v,.bool o,.int .i64 c]∧Af (w1.setCell ⟨D,0,none⟩ v') D 104 #[v',.bool o,.int .i64 c]∧Eg (w1.setCell ⟨D,0,none⟩ v') base v' (b++t)∧Bo (w1.setCell ⟨D,0,none⟩ v') base D ⟨b++t,o,c⟩∧Ec base D w (w1.setCell ⟨D,0,none⟩ v'):=by
 have k1:Af w1 D 104 #[v,.bool o,.int .i64 c]:=(hg.block D hK.lt (fun e=>hv.apart hK D e.symm rfl)).trans hK;have k2:Af (w1.setCell ⟨D,0,none⟩ v') D 104 #[v',.bool o,.int .i64 c]:=by have:=k1.set 0 v';simpa using this
 have k3:Eg (w1.setCell ⟨D,0,none⟩ v') base v' (b++t):=h1.kept fun g hg=>heap_setCell_other _ _ _ _ (by simpa using h1.apart k1 g hg)
 refine⟨k1,k2,k3,⟨hB,hl,v',k2,k3⟩,?_⟩;have s1:=Ec.grown hK hv hg hb;refine⟨s1.below.setCell hB _,fun k c t fz hk q1 q2=>?_,fun k hk hn=>(heap_setCell_other _ _ _ _ (by simpa using fun e=>hn (Or.inl e))).trans (s1.own k hk hn),fun k hk hx=>?_⟩
 ·have hne:k≠D:=by
   rintro rfl;rw[show w.heap[k]?=_ from hK] at hk;simp at hk;exact q2 hk.2.1.symm
  exact(heap_setCell_other _ _ _ _ (by simpa using hne)).trans (s1.kept k c t fz hk q1 q2)
 ·rcases hx with hx|⟨u,x',y',q1,q2⟩
  ·exact Or.inl hx
  ·right
   rw[show(w1.setCell ⟨D,0,none⟩ v').heap[D]?=_ from k2] at q1;injection q1 with q1;injection q1 with q1;have q3:v'=u:=by simpa using congrArg (fun a:Array Value=>a.toList.headD undef) q1
   subst q3
   rcases hmv with e|e
   ·exact⟨_,_,_,hK,by rw[←e];exact q2⟩
   ·have:=e k q2;omega
theorem Fj{o:Oper}{a:Act}{w w':World}{K:Act→World→Prop}{Q:Exit→Act→World→Prop}(sl x:Operand)
 (ho:o.op=.call { callee:=.builtin .append,args:=#[sl,x],argTypes:=#[102,9] }) (v v':Value) (t:List UInt8) (hs:a.eval sl=v) (hx:a.eval x=.string ⟨t.toArray⟩)
 (hrun:(Builtin.append_ #[102,9] o.type #[v,.string ⟨t.toArray⟩]).run prog w=.ok v' w') (h:K (a.put o.dst v') w'):Oper.wp prog o a w K Q:=by
 unfold Oper.wp execOp;simp only[ho,resolve,invoke,builtin,Sem.run_bind,Sem.run_pure,Result.andThen_ok,List.map_toArray,List.map_cons,List.map_nil,hs,hx,hrun];exact h
theorem Iq{ops:Array Oper}{rest:List Oper}{o:Oper}{a:Act}{Q:Exit→Act→World→Prop}{w w':World}(hgd:o.guard=none)(sl x:Operand)
 (ho:o.op=.call { callee:=.builtin .append,args:=#[sl,x],argTypes:=#[102,9] }) (v v':Value) (t:List UInt8) (hs:a.eval sl=v) (hx:a.eval x=.string ⟨t.toArray⟩)
 (hrun:(Builtin.append_ #[102,9] o.type #[v,.string ⟨t.toArray⟩]).run prog w=.ok v' w') (h:wpList prog ops Q rest (a.put o.dst v') w'):wpList prog ops Q (o::rest) a w:=
 wpList_plain hgd fun _ hK=>Fj sl x ho v v' t hs hx hrun (hK _ _ h)
theorem Tr(ea:Nat→Addr)(base D:Nat)(s:Dk)(t:List UInt8)(w:World)(hg:Bh w ea [11])(hD:Bo w base D s)(hb:base≤w.heap.size)(hlt:s.b.length+t.length≤262144)(hgb:gOf 11<base)(hc : -9223372036854775808≤s.cut∧s.cut≤9223372036854775807) :
 Calls prog 87 #[.pointer (some ⟨D,0,none⟩),.string ⟨t.toArray⟩] w fun e w'=>e=.returned (Bm ea (wrF s t).2)∧Bo w' base D (wrF s t).1∧Ec base D w w':=by
 have g11:=hg.cell 11 (by simp);simp only[gOf] at g11;have hD':=hD;obtain⟨b,o,c⟩:=s;obtain⟨hB,hl,v,hK,hv⟩:=hD;have hlt:b.length+t.length≤262144:=hlt;have hc : -9223372036854775808≤c∧c≤9223372036854775807:=hc;obtain⟨av,cv,rfl⟩:=hv.shape;have c0:=hK.cell 0 rfl;have c1:=hK.cell 1 rfl;have c2:=hK.cell 2 rfl
 cases o
 ·by_cases h0:0≤c
  ·by_cases h1:c<t.length
   ·have hF:wrF ⟨b,false,c⟩ t=(⟨b++t.take c.toNat,true,c⟩,11):=by rw[wrF];simp[h0,h1]
    rw[hF];obtain⟨v',w1,hrun,hrow,hgr,hmv⟩:=G9 w.drew base 102 _ b (t.take c.toNat) hv (by rw[List.length_take];omega) hb;obtain⟨a2,cap2,rfl⟩:=hrow.shape;obtain⟨k1,k2,k3,k4,k5⟩:=Ro (w:=w.drew) hB hb hK hv (by rw[List.length_append,List.length_take];omega) hrow hgr hmv;simp only[List.length_append,List.length_take] at hrun k1 k2 k3 k4 k5;have hk6:=Ec.setDisk k2 hB 1 (.bool true) (Or.inl (by decide));have d0:decide (0≤c)=true:=decide_eq_true h0;have d1:decide (c<(t.length:Int))=true:=decide_eq_true h1
    have hx:∀W:World,(Instr.slice 9 (.string ⟨t.toArray⟩) none (some (.int .i64 c)) none).run prog W=.ok (.string ⟨(t.take c.toNat).toArray⟩) W:=fun W=>by
     rw[run_slice_string_h W 9 ⟨t.toArray⟩ underlying9 .i64 c h0 (by show c≤(t.length:Int);omega)]
     congr 2
     apply ByteArray.ext;apply Array.ext';simp
    have e0:=k1.cell 0 rfl;have f0:=k1.frozen 0;have e1:=k2.cell 1 rfl;have f1:=k2.frozen 1;have e2:=k1.cell 2 rfl;have e3:=k2.cell 2 rfl;have hgw:=(k5.below.cell (p:=⟨gOf 11,0,none⟩) hgb).trans (show w.drew.cell? ⟨gOf 11,0,none⟩=some (Bm ea 11) from hg.cell 11 (by simp));have hn1:¬(gOf 11=D):=by omega
    have hn2:¬(D=gOf 11):=by omega
    simp only[gOf] at hgw hn1 hn2;go_enter func87,ntmps87;go_wp2;refine wp_region_any (by kernel_rfl) ?_
    try(change wpAny _ _ _ _ _ _ _ (World.drew _))
    refine wpAny_take (i:=0) (v:=?_) rfl (by kernel_rfl) (by kernel_rfl) (by kernel_rfl) (fun _ _ _ h=>h) (Or.inl ⟨by rfl,?_⟩) ?_;rotate_left
    ·(intro w;go_simp;try with_reducible rfl)
    refine wpAny_take (i:=1) (v:=?_) rfl (by kernel_rfl) (by kernel_rfl) (by kernel_rfl) (fun _ _ _ h=>h) (Or.inl ⟨by rfl,?_⟩) ?_;rotate_left
    ·(intro w;go_simp;try with_reducible rfl)
    refine wpAny_take (i:=2) (v:=?_) rfl (by kernel_rfl) (by kernel_rfl) (by kernel_rfl) (fun _ _ _ h=>h) (Or.inl ⟨by rfl,?_⟩) ?_;rotate_left
    ·(intro w;go_simp;try with_reducible rfl)
    refine wpAny_take (i:=3) (v:=?_) rfl (by kernel_rfl) (by kernel_rfl) (by kernel_rfl) (fun _ _ _ h=>h) (Or.inl ⟨by rfl,?_⟩) ?_;rotate_left
    ·(intro w;go_simp;try with_reducible rfl)
    refine wpAny_take (i:=5) (v:=?_) rfl (by kernel_rfl) (by kernel_rfl) (by kernel_rfl) (fun _ _ _ h=>h) (Or.inl ⟨by rfl,?_⟩) ?_;rotate_left
    ·(intro w;go_simp;try with_reducible rfl)
    refine wpAny_take (i:=6) (v:=?_) rfl (by kernel_rfl) (by kernel_rfl) (by kernel_rfl) (fun _ _ _ h=>h) (Or.inl ⟨by rfl,?_⟩) ?_;rotate_left
    ·(intro w;go_simp;try with_reducible rfl)
    refine wpAny_take (i:=7) (v:=?_) rfl (by kernel_rfl) (by kernel_rfl) (by kernel_rfl) (fun _ _ _ h=>h) (Or.inl ⟨by rfl,?_⟩) ?_;rotate_left
    ·(intro w;go_simp;try with_reducible rfl)
    refine wpAny_take (i:=8) (v:=?_) rfl (by kernel_rfl) (by kernel_rfl) (by kernel_rfl) (fun _ _ _ h=>h) (Or.inl ⟨by rfl,?_⟩) ?_;rotate_left
    ·(intro w;go_simp;try with_reducible rfl)
    refine wpAny_ready (rs:=[4,9]) (by kernel_rfl) (by simp) ?_;refine AllReady.cons rfl (fun K hK=>?_) ?_
    ·go_simp;refine hK _ _ ?_
     refine wpAny_ready (rs:=[9]) (by kernel_rfl) (by simp) ?_;refine AllReady.cons rfl (fun K hK=>?_) AllReady.nil;go_simp;refine hK _ _ ?_;refine wpAny_ready (rs:=[10]) (by kernel_rfl) (by simp) ?_;refine AllReady.cons rfl (fun K hK=>?_) AllReady.nil;go_simp;refine hK _ _ ?_;refine wpAny_ready (rs:=[11]) (by kernel_rfl) (by simp) ?_;refine AllReady.cons rfl (fun K hK=>?_) AllReady.nil;rw[if_pos (by rfl)];refine Fj (.tmp 28) (.tmp 34) rfl _ _ (t.take c.toNat) rfl rfl hrun ?_;refine hK _ _ ?_;refine wpAny_ready (rs:=[12]) (by kernel_rfl) (by simp) ?_;refine AllReady.cons rfl (fun K hK=>?_) AllReady.nil;go_simp;refine hK _ _ ?_;refine wpAny_ready (rs:=[13]) (by kernel_rfl) (by simp) ?_;refine AllReady.cons rfl (fun K hK=>?_) AllReady.nil;go_simp;refine hK _ _ ?_;refine wpAny_ready (rs:=[14]) (by kernel_rfl) (by simp) ?_;refine AllReady.cons rfl (fun K hK=>?_) AllReady.nil;go_simp;refine hK _ _ ?_;refine wpAny_done (by kernel_rfl) ?_ _;go_wp2;go_ret;exact⟨rfl,(Bo.set hB (by rw[List.length_append,List.length_take];omega) k2 k3).1 true,((Ec.drew (D:=D) w).trans k5).trans hk6⟩
    refine AllReady.cons rfl (fun K hK=>?_) AllReady.nil;go_simp;refine hK _ _ ?_;refine wpAny_ready (rs:=[4,10]) (by kernel_rfl) (by simp) ?_;refine AllReady.cons rfl (fun K hK=>?_) ?_
    ·go_simp;refine hK _ _ ?_
     refine wpAny_ready (rs:=[10]) (by kernel_rfl) (by simp) ?_;refine AllReady.cons rfl (fun K hK=>?_) AllReady.nil;go_simp;refine hK _ _ ?_;refine wpAny_ready (rs:=[11]) (by kernel_rfl) (by simp) ?_;refine AllReady.cons rfl (fun K hK=>?_) AllReady.nil;rw[if_pos (by rfl)];refine Fj (.tmp 28) (.tmp 34) rfl _ _ (t.take c.toNat) rfl rfl hrun ?_;refine hK _ _ ?_;refine wpAny_ready (rs:=[12]) (by kernel_rfl) (by simp) ?_;refine AllReady.cons rfl (fun K hK=>?_) AllReady.nil;go_simp;refine hK _ _ ?_;refine wpAny_ready (rs:=[13]) (by kernel_rfl) (by simp) ?_;refine AllReady.cons rfl (fun K hK=>?_) AllReady.nil;go_simp;refine hK _ _ ?_;refine wpAny_ready (rs:=[14]) (by kernel_rfl) (by simp) ?_;refine AllReady.cons rfl (fun K hK=>?_) AllReady.nil;go_simp;refine hK _ _ ?_;refine wpAny_done (by kernel_rfl) ?_ _;go_wp2;go_ret;exact⟨rfl,(Bo.set hB (by rw[List.length_append,List.length_take];omega) k2 k3).1 true,((Ec.drew (D:=D) w).trans k5).trans hk6⟩
    refine AllReady.cons rfl (fun K hK=>?_) AllReady.nil;go_simp;refine hK _ _ ?_;refine wpAny_ready (rs:=[4]) (by kernel_rfl) (by simp) ?_;refine AllReady.cons rfl (fun K hK=>?_) AllReady.nil;go_simp;refine hK _ _ ?_;refine wpAny_ready (rs:=[11]) (by kernel_rfl) (by simp) ?_;refine AllReady.cons rfl (fun K hK=>?_) AllReady.nil;rw[if_pos (by rfl)];refine Fj (.tmp 28) (.tmp 34) rfl _ _ (t.take c.toNat) rfl rfl hrun ?_;refine hK _ _ ?_;refine wpAny_ready (rs:=[12]) (by kernel_rfl) (by simp) ?_;refine AllReady.cons rfl (fun K hK=>?_) AllReady.nil;go_simp;refine hK _ _ ?_;refine wpAny_ready (rs:=[13]) (by kernel_rfl) (by simp) ?_;refine AllReady.cons rfl (fun K hK=>?_) AllReady.nil;go_simp;refine hK _ _ ?_;refine wpAny_ready (rs:=[14]) (by kernel_rfl) (by simp) ?_;refine AllReady.cons rfl (fun K hK=>?_) AllReady.nil;go_simp;refine hK _ _ ?_;refine wpAny_done (by kernel_rfl) ?_ _;go_wp2;go_ret;exact⟨rfl,(Bo.set hB (by rw[List.length_append,List.length_take];omega) k2 k3).1 true,((Ec.drew (D:=D) w).trans k5).trans hk6⟩
   ·have hF:wrF ⟨b,false,c⟩ t=(⟨b++t,false,c-t.length⟩,0):=by rw[wrF];simp[h0,h1]
    rw[hF,Al];have hK2:Af (w.setCell ⟨D,2,none⟩ (.int .i64 (c-t.length))) D 104 #[.slice av b.length cv,.bool false,.int .i64 (c-t.length)]:=by have:=hK.set 2 (.int .i64 (c-t.length));simpa using this
    have hv2:Eg (w.setCell ⟨D,2,none⟩ (.int .i64 (c-t.length))) base (.slice av b.length cv) b:=hv.kept fun g hg=>heap_setCell_other _ _ _ _ (by simpa using hv.apart hK g hg)
    have hS2:=Ec.setDisk hK hB 2 (.int .i64 (c-t.length)) (Or.inl (by decide));obtain⟨v',w1,hrun,hrow,hgr,hmv⟩:=G9 (w.setCell ⟨D,2,none⟩ (.int .i64 (c-t.length))) base 102 _ b t hv2 (by omega) (by simpa using hb);obtain⟨a2,cap2,rfl⟩:=hrow.shape;obtain⟨k1,k2,k3,k4,k5⟩:=Ro hB (by simpa using hb) hK2 hv2 (by rw[List.length_append];exact hlt) hrow hgr hmv;simp only[List.length_append] at hrun k1 k2 k3 k4 k5;have d0:decide (0≤c)=true:=decide_eq_true h0;have d1:decide (c<(t.length:Int))=false:=decide_eq_false h1;have e0:=k1.cell 0 rfl;have f0:=k1.frozen 0;have c0':=hK2.cell 0 rfl;have q2:=hK.frozen 2;go_enter func87,ntmps87;go_wp2_with (at_builtin;refine Iq rfl _ _ rfl _ _ t rfl rfl hrun ?_);go_ret;exact⟨rfl,k4,hS2.trans k5⟩
  ·have hF:wrF ⟨b,false,c⟩ t=(⟨b++t,false,c⟩,0):=by rw[wrF];simp[h0]
   rw[hF,Al];obtain⟨v',w1,hrun,hrow,hgr,hmv⟩:=G9 w base 102 _ b t hv (by omega) hb;obtain⟨a2,cap2,rfl⟩:=hrow.shape;obtain⟨k1,k2,k3,k4,k5⟩:=Ro hB hb hK hv (by rw[List.length_append];exact hlt) hrow hgr hmv;simp only[List.length_append] at hrun k1 k2 k3 k4 k5;have d0:decide (0≤c)=false:=decide_eq_false h0;have e0:=k1.cell 0 rfl;have f0:=k1.frozen 0;go_enter func87,ntmps87;go_wp2_with (at_builtin;refine Iq rfl _ _ rfl _ _ t rfl rfl hrun ?_);go_ret;exact⟨rfl,k4,k5⟩
 ·have hF:wrF ⟨b,true,c⟩ t=(⟨b,true,c⟩,11):=by rw[wrF];rfl
  rw[hF];go_enter func87,ntmps87;go_wp2;go_ret;exact⟨rfl,hD',Ec.refl _ _ _⟩
def A7(s:List UInt8):List UInt8:=Lib.itoa (s.length:Nat)++58::(s++[10,46])
def A9(b:List UInt8):List UInt8:=b.takeWhile (· != 58)
def Dv(b:List UInt8):List UInt8:=b.drop ((A9 b).length+1)
def Iu(b:List UInt8):Option (List UInt8):=
 if (A9 b).length<b.length then
  match Cl (A9 b) with
  | some n=>if 0≤n∧n≤4000∧n.toNat+2≤(Dv b).length∧((Dv b).drop n.toNat).take 2=[10,46] then some ((Dv b).take n.toNat) else none
  | none=>none
 else none
theorem zCr{d r:List UInt8}(h:(58:UInt8)∉d):A9 (d++58::r)=d:=by
 unfold A9;rw[List.takeWhile_append_of_pos]
 ·simp
 ·intro x hx
  simp only[bne_iff_ne,ne_eq];rintro rfl;exact h hx
theorem Vl{p:UInt8→Bool}:∀(b:List UInt8),∀x∈b.takeWhile p,p x=true
 | [],x,h=>by simp at h
 | c::r,x,h=>by
  rw[List.takeWhile_cons] at h
  split at h
  ·rename_i hc
   rcases List.mem_cons.1 h with rfl|h
   ·exact hc
   ·exact Vl r x h
  ·simp at h
theorem Xz(b:List UInt8):(58:UInt8)∉A9 b:=by
 intro h;have:=Vl b 58 h;simp at this
theorem Up{b:List UInt8}(h:(A9 b).length<b.length):b=A9 b++58::Dv b:=by
 have hp:A9 b <+: b:=List.takeWhile_prefix _;obtain⟨r,hr⟩:=hp
 have hd:b.drop (A9 b).length=r:=by
  have e:=congrArg (List.drop (A9 b).length) hr;rw[List.drop_left] at e;exact e.symm
 have hne:r≠[]:=by
  rintro rfl;have:=congrArg List.length hr;simp at this;omega
 obtain⟨c,q,rfl⟩:=List.exists_cons_of_ne_nil hne
 have hc:c=58:=by
  have h1:A9 b=A9 (A9 b++c::q):=by rw[hr]
  have hpos:∀x∈A9 b,(x != 58)=true:=fun x hx=>by
   have:=Xz b;simp only[bne_iff_ne,ne_eq];rintro rfl;exact this hx
  unfold A9 at h1 hpos;rw[List.takeWhile_append_of_pos hpos] at h1
  by_cases hc:c=58
  ·exact hc
  ·rw[List.takeWhile_cons_of_pos (by simpa using hc)] at h1
   have:=congrArg List.length h1;simp at this
 subst hc
 have h2:Dv b=q:=by
  unfold Dv;rw[←List.drop_drop,hd];rfl
 rw[h2];exact hr.symm
theorem X2(n:Nat):∀c∈Lib.itoa (n:Int),48≤c.toNat∧c.toNat≤57:=by
 intro c hc
 have e:Lib.itoa (n:Int)=Lib.decDigits n:=by
  unfold Lib.itoa;rw[if_neg (by omega)];simp
 rw[e] at hc;exact Dq n c hc
theorem V5(n:Nat):(58:UInt8)∉Lib.itoa (n:Int):=fun h=>by
 have:=X2 n 58 h;simp at this
theorem Mg(s r:List UInt8):A9 (A7 s++r)=Lib.itoa (s.length:Nat):=by
 rw[A7,List.append_assoc,List.cons_append];exact zCr (V5 _)
theorem Vd(s r:List UInt8):Dv (A7 s++r)=s++[10,46]++r:=by
 rw[Dv,Mg,A7,List.append_assoc,List.cons_append];rw[←List.drop_drop,List.drop_left]
 rfl
theorem U2{n:Nat}(h:n<10000000):Cl (Lib.itoa (n:Int))=some (n:Int):=(D7 _ _).2 ⟨rfl,by omega,by omega⟩
theorem Ii{s:List UInt8}(hs:s.length≤4000)(r:List UInt8):Iu (A7 s++r)=some s:=by
 have hl:(A9 (A7 s++r)).length<(A7 s++r).length:=by rw[Mg,A7];simp<;>omega
 rw[Iu,if_pos hl,Mg,U2 (by omega),Vd];simp only[Int.toNat_natCast];rw[if_pos ⟨by omega,by omega,by simp<;>omega,by rw[List.append_assoc,List.drop_left];rfl⟩,List.append_assoc,List.take_left]
theorem U3{b s:List UInt8}(h:Iu b=some s):s.length≤4000∧∃r,b=A7 s++r:=by
 unfold Iu at h
 split at h
 ·rename_i hl
  split at h
  ·rename_i n hn
   split at h
   ·rename_i hc
    obtain⟨h0,h1,h2,h3⟩:=hc;simp only[Option.some.injEq] at h;have hn':=(D7 _ _).1 hn;have hsl:s.length=n.toNat:=by rw[←h,List.length_take];omega
    refine⟨by omega,((Dv b).drop n.toNat).drop 2,?_⟩;have e1:Lib.itoa ((s.length:Nat):Int)=A9 b:=by rw[hsl,show((n.toNat:Nat):Int)=n by omega];exact hn'.1.symm
    have e2:Dv b=s++([10,46]++((Dv b).drop n.toNat).drop 2):=by
     conv=>lhs;rw[←List.take_append_drop n.toNat (Dv b),h]
     rw[←h3,List.take_append_drop]
    rw[A7,e1,List.append_assoc,List.cons_append,List.append_assoc]
    conv=>lhs;rw[Up hl,e2]
   ·cases h
  ·cases h
 ·cases h
theorem L7(s:List UInt8):s.length+4≤(A7 s).length:=by
 rw[A7]
 have:1≤(Lib.itoa (s.length:Nat)).length:=by
  have e:Lib.itoa ((s.length:Nat):Int)=Lib.decDigits s.length:=by
   unfold Lib.itoa;rw[if_neg (by omega)];simp
  rw[e];have:=Eo s.length
  cases h:Lib.decDigits s.length with
  | nil=>exact absurd h this
  | cons a l=>simp
 simp;omega
def H5(b:List UInt8)(l:List (List UInt8)):Prop:=(∀s∈l,s.length≤4000)∧∃r,b=l.flatMap A7++r∧Iu r=none
theorem Kx:∀(k:Nat) (b:List UInt8),b.length≤k→∃l,H5 b l
 | 0,b,h=>⟨[],by simp,b,rfl,by
  have:b=[]:=List.eq_nil_of_length_eq_zero (by omega)
  subst this;rfl⟩
 | k+1,b,h=>by
  cases ho:Iu b with
  | none=>exact⟨[],by simp,b,rfl,ho⟩
  | some s=>
   obtain⟨hs,r,rfl⟩:=U3 ho;have hl:=L7 s;obtain⟨l,h1,q,rfl,h3⟩:=Kx k r (by simp at h;omega);exact⟨s::l,by simpa using⟨hs,h1⟩,q,by simp,h3⟩
theorem Om:∀(l m:List (List UInt8)) (b:List UInt8),H5 b l→H5 b m→l=m
 | [],[],_,_,_=>rfl
 | [],s::m,b,⟨_,r,h1,h2⟩,⟨h3,q,h4,_⟩=>by
  exfalso;simp at h1 h4;subst h1;rw[h4,Ii (h3 s (by simp))] at h2
  cases h2
 | s::l,[],b,⟨h3,q,h4,_⟩,⟨_,r,h1,h2⟩=>by
  exfalso;simp at h1 h4;subst h1;rw[h4,Ii (h3 s (by simp))] at h2
  cases h2
 | s::l,t::m,b,⟨h1,r,h2,h3⟩,⟨g1,q,g2,g3⟩=>by
  simp only[List.flatMap_cons,List.append_assoc] at h2 g2;have e1:Iu b=some s:=by rw[h2];exact Ii (h1 s (by simp)) _
  have e2:Iu b=some t:=by rw[g2];exact Ii (g1 t (by simp)) _
  rw[e1] at e2;obtain rfl:=Option.some.inj e2;rw[h2] at g2;have e3:=List.append_cancel_left g2;rw[Om l m (l.flatMap A7++r) ⟨fun x hx=>h1 x (by simp[hx]),r,rfl,h3⟩ ⟨fun x hx=>g1 x (by simp[hx]),q,e3,g3⟩]
theorem zGs{s p:List UInt8}(hs:s.length≤4000)(hp:p <+: A7 s)(hl:p.length<(A7 s).length):Iu p=none:=by
 cases ho:Iu p with
 | none=>rfl
 | some t=>
  exfalso;obtain⟨ht,r,rfl⟩:=U3 ho;obtain⟨q,hq⟩:=hp;rw[List.append_assoc] at hq;have e1:=Ii ht (r++q);rw[hq] at e1;have e2:=Ii hs [];rw[List.append_nil] at e2;rw[e2] at e1;obtain rfl:=Option.some.inj e1;simp at hl;omega
theorem M7(l:List UInt8)(f k:Nat):(⟨l.toArray⟩:ByteArray).extract f k=⟨((l.drop f).take (k-f)).toArray⟩:=by
 apply ByteArray.ext;apply Array.ext';simp[ByteArray.data_extract,List.extract_eq_take_drop]
theorem Gg(a b:List UInt8)(h:a.length+b.length≤9223372036854775807)(W:World):(Op.stringOp .add ⟨a.toArray⟩ ⟨b.toArray⟩).run prog W=.ok (.string ⟨(a++b).toArray⟩) W:=by
 have hs:∀l:List UInt8,(⟨l.toArray⟩:ByteArray).size=l.length:=fun l=>rfl
 have h2:¬(9223372036854775807<((a.length:Int)+(b.length:Int))):=by omega
 simp[Op.stringOp,hs,Ba]<;>omega
theorem Rm(l p:List UInt8)(w:World)(hT:Bf w)(hl:l.length≤4294967280) :
 Calls prog 199 #[.string ⟨l.toArray⟩,.string ⟨p.toArray⟩] w fun e w'=>e=.returned (.tuple #[.string ⟨(Lib.cut l p).1.toArray⟩,.string ⟨(Lib.cut l p).2.1.toArray⟩,.bool (Lib.cut l p).2.2])∧Below w.heap.size w w':=by
 obtain⟨m,_,hm⟩:=hT.mx;refine(Tryz.strings_Cut ⟨l.toArray⟩ ⟨p.toArray⟩ m w (by simp[ByteArray.size];omega) hm).mono ?_;rintro e w'⟨rfl,k,rfl⟩;exact⟨rfl,Ab zb k⟩
theorem Ls:∀(b:List UInt8),((A9 b).length<b.length∧Lib.indexByte b 58=((A9 b).length:Nat))∨((A9 b).length=b.length∧Lib.indexByte b 58=-1)
 | []=>Or.inr ⟨rfl,rfl⟩
 | c::r=>by
  by_cases hc:c=58
  ·subst hc
   left
   exact⟨by simp[A9],by simp[A9,Lib.indexByte]⟩
  ·have h1:A9 (c::r)=c::A9 r:=by unfold A9;rw[List.takeWhile_cons_of_pos (by simpa using hc)]
   have hb:(c==58)=false:=by simpa using hc
   rw[h1]
   rcases Ls r with⟨h2,h3⟩|⟨h2,h3⟩
   ·left
    refine⟨by simp;omega,?_⟩;rw[Lib.indexByte,hb,h3];have e:((((A9 r).length:Nat):Int)==-1)=false:=by simp<;>omega
    simp[e]
   ·right
    refine⟨by simp;omega,?_⟩;rw[Lib.indexByte,hb,h3];rfl
theorem zBl{b:List UInt8}(h:(A9 b).length<b.length):Lib.cut b [58]=(A9 b,Dv b,true):=by
 rcases Ls b with⟨_,h2⟩|⟨h2,_⟩
 ·rw[Lib.cut,Lib.index_one,h2,if_pos (by omega),Int.toNat_natCast]
  have e:b.take (A9 b).length=A9 b:=(List.prefix_iff_eq_take.1 (List.takeWhile_prefix _)).symm;rw[e];rfl
 ·omega
theorem zJo{b:List UInt8}(h:¬(A9 b).length<b.length):Lib.cut b [58]=(b,[],false):=by
 rcases Ls b with⟨h2,_⟩|⟨_,h2⟩
 ·exact absurd h2 h
 ·rw[Lib.cut,Lib.index_one,h2,if_neg (by omega)]
theorem E4{n:Int}(h0 : -10000000<n)(h1:n<10000000):(Lib.itoa n).length≤9:=by
 unfold Lib.itoa
 split
 ·rename_i h
  have:=(Dg n.natAbs 8 (by omega)).2 (by simp only[Nat.reducePow];omega);simp;omega
 ·have:=(Dg n.toNat 8 (by omega)).2 (by simp only[Nat.reducePow];omega)
  omega
theorem zIr{b:List UInt8}(h:∀n,Lib.atoiAll (A9 b)≠.ok n):Iu b=none:=by
 unfold Iu
 split
 ·have:Cl (A9 b)=none:=by
   unfold Cl
   split
   ·rename_i n hn;exact absurd hn (h n)
   ·rfl
  rw[this]
 ·rfl
theorem zGt{b:List UInt8}{n:Int}(hl:(A9 b).length<b.length)(h:Lib.atoiAll (A9 b)=.ok n) :
 Iu b=if (A9 b).length≤9∧0≤n∧Lib.itoa n=A9 b∧n≤4000∧n.toNat+2≤(Dv b).length∧((Dv b).drop n.toNat).take 2=[10,46] then some ((Dv b).take n.toNat) else none:=by
 unfold Iu;rw[if_pos hl]
 cases hf:Cl (A9 b) with
 | none=>
  rw[if_neg];rintro⟨_,h0,h1,h2,_⟩;have:=(D7 (A9 b) n).2 ⟨h1.symm,by omega,by omega⟩;rw[hf] at this;cases this
 | some m=>
  obtain⟨e1,e2,e3⟩:=(D7 _ _).1 hf;have e4:=F6 m (by omega) (by omega);rw[←e1,h] at e4;obtain rfl:n=m:=by injection e4
  have e5:=E4 e2 e3;rw[←e1] at e5;dsimp only
  by_cases hc:0≤n∧n≤4000∧n.toNat+2≤(Dv b).length∧((Dv b).drop n.toNat).take 2=[10,46]
  ·rw[if_pos hc,if_pos ⟨e5,hc.1,e1.symm,hc.2⟩]
  ·rw[if_neg hc,if_neg (fun x=>hc ⟨x.2.1,x.2.2.2⟩)]
theorem Na(n:Nat)(h:n≤4294967296):(Lib.itoa ((n:Nat):Int)).length≤10:=by
 have e:Lib.itoa ((n:Nat):Int)=Lib.decDigits n:=by
  unfold Lib.itoa;rw[if_neg (by omega)];simp
 rw[e];exact(Dg n 10 (by omega)).2 (by simp only[Nat.reducePow];omega)
theorem Mp(s:List UInt8)(h:s.length≤4294967280):(A7 s).length≤s.length+13:=by
 have:=Na s.length (by omega);rw[A7];simp;omega
theorem zB4(s:List UInt8):A7 s=((Lib.itoa (s.length:Nat)++[58])++s)++[10,46]:=by simp[A7]
theorem Sx(s:List UInt8)(w:World)(hT:Bf w)(hs:s.length≤4294967280) :
 Calls prog 86 #[.string ⟨s.toArray⟩] w fun e w'=>e=.returned (.string ⟨(A7 s).toArray⟩)∧Below w.heap.size w w':=by
 have KI:=zh (Df (s.length:Nat) w hT (by omega));have hl:=Na s.length (by omega);rw[zB4];generalize Lib.itoa ((s.length:Nat):Int)=t at *;have a1:=Gg t [58] (by simp;omega);have a2:=Gg (t++[58]) s (by simp;omega);have a3:=Gg (t++[58]++s) [10,46] (by simp;omega);clear hT;go_enter func86,ntmps86;go_wp2_with fail;refine KI.out.mono ?_;rintro e w1⟨rfl,hb⟩;go_wp2;go_ret;refine⟨?_,hb⟩
 show Ending.returned (.string ((⟨(t++58::s).toArray⟩:ByteArray)++⟨[10,46].toArray⟩))=_
 rw[Ba];simp
theorem zJk(l:List UInt8)(w:World)(hT:Bf w)(hl:l.length≤4294967280) :
 Calls prog 175 #[.string ⟨l.toArray⟩] w fun e w'=>(∃m v,e=.returned (.tuple #[.int .i64 m,v]))∧Below w.heap.size w w':=by
 by_cases h:∃n,Lib.atoiAll l=.ok n
 ·obtain⟨n,hn⟩:=h
  exact(Jv l n w hl hn).mono fun e w' ⟨h1,h2⟩=>⟨⟨n,.nilIface,h1⟩,h2⟩
 ·exact(Nt l w hT hl (fun n hn=>h ⟨n,hn⟩)).mono fun e w' ⟨⟨m,t,x,h1⟩,h2⟩=>⟨⟨m,.iface t x,h1⟩,h2⟩
theorem zDd(b:List UInt8)(w:World)(hT:Bf w)(hs:b.length≤4294967280)(h:¬(A9 b).length<b.length) :
 Calls prog 156 #[.string ⟨b.toArray⟩] w fun e w'=>e=.returned (.tuple #[.string ⟨#[]⟩,.bool false])∧Below w.heap.size w w':=by
 have KC:=zh (Rm b [58] w hT hs);rw[zJo h] at KC;have KA:=zh (fun(W:World) (hb:Below w.heap.size w W)=>zJk b W (hT.below hb) hs);clear hT h;go_enter func156,ntmps156;go_wp2_with fail;refine KC.out.mono ?_;rintro e w1⟨rfl,hb1⟩;go_wp2_with fail;refine(KA.out _ hb1).mono ?_;rintro e w2⟨⟨m,v,rfl⟩,hb2⟩;go_wp2;go_ret2;exact⟨rfl,hb1.trans (hb2.mono hb1.size)⟩
theorem zDe(b:List UInt8)(w:World)(hT:Bf w)(hs:b.length≤4294967280)(h:(A9 b).length<b.length)(hn:∀n,Lib.atoiAll (A9 b)≠.ok n) :
 Calls prog 156 #[.string ⟨b.toArray⟩] w fun e w'=>e=.returned (.tuple #[.string ⟨#[]⟩,.bool false])∧Below w.heap.size w w':=by
 have KC:=zh (Rm b [58] w hT hs);rw[zBl h] at KC;have KA:=zh (fun(W:World) (hb:Below w.heap.size w W)=>Nt (A9 b) W (hT.below hb) (by omega) hn);clear hT h hn;go_enter func156,ntmps156;go_wp2_with fail;refine KC.out.mono ?_;rintro e w1⟨rfl,hb1⟩;go_wp2_with fail;refine(KA.out _ hb1).mono ?_;rintro e w2⟨⟨m,t,x,rfl⟩,hb2⟩;go_wp2;go_ret2;exact⟨rfl,hb1.trans (hb2.mono hb1.size)⟩
theorem zIs(b d r:List UInt8)(n:Int)(o:Option (List UInt8))(w:World)(hT:Bf w)(hs:b.length≤4294967280)(hl:d.length≤4294967280)(hc:Lib.cut b [58]=(d,r,true))(hn:Lib.atoiAll d=.ok n)
 (ho:o=if d.length≤9∧0≤n∧Lib.itoa n=d∧n≤4000∧n.toNat+2≤r.length∧(r.drop n.toNat).take 2=[10,46] then some (r.take n.toNat) else none) :
 Calls prog 156 #[.string ⟨b.toArray⟩] w fun e w'=>e=.returned (.tuple #[.string ⟨(o.getD []).toArray⟩,.bool o.isSome])∧Below w.heap.size w w':=by
 have KC:=zh (Rm b [58] w hT hs);rw[hc] at KC;have KA:=zh (fun(W:World)=>Jv d n W hl hn);have hb:=Lib.atoiAll_bounds hn;have KI:=zh (fun(W:World) (hb0:Below w.heap.size w W)=>Df n W (hT.below hb0) hb);have HO:=zh ho;clear hT hc hn ho;go_enter func156,ntmps156;go_wp2_with fail;refine KC.out.mono ?_;rintro e w1⟨rfl,hb1⟩;go_wp2_with fail;refine(KA.out _).mono ?_;rintro e w2⟨rfl,hb2⟩;have hv2:=hb1.trans (hb2.mono hb1.size);have K2:=KI.out _ hv2
 by_cases h1:d.length≤9
 rotate_left
 ·have d9:decide ((d.length:Int)≤9)=false:=decide_eq_false (by omega)
  obtain rfl:o=none:=by rw[HO.out,if_neg (fun x=>h1 x.1)]
  go_wp2;go_ret2;exact⟨rfl,hv2⟩
 have d9:decide ((d.length:Int)≤9)=true:=decide_eq_true (by omega)
 by_cases h2:0≤n
 rotate_left
 ·have d0:decide (0≤n)=false:=decide_eq_false h2
  obtain rfl:o=none:=by rw[HO.out,if_neg (fun x=>h2 x.2.1)]
  go_wp2;go_ret2;exact⟨rfl,hv2⟩
 have d0:decide (0≤n)=true:=decide_eq_true h2
 by_cases h3:Lib.itoa n=d
 rotate_left
 ·obtain rfl:o=none:=by rw[HO.out,if_neg (fun x=>h3 x.2.2.1)]
  clear HO;generalize Lib.itoa n=t at *;go_wp2_with fail;refine K2.mono ?_;rintro e w3⟨rfl,hb3⟩;go_wp2;go_ret2;exact⟨rfl,hv2.trans (hb3.mono hv2.size)⟩
 rw[h3] at K2;go_wp2_with fail;refine K2.mono ?_;rintro e w3⟨rfl,hb3⟩;have hv3:=hv2.trans (hb3.mono hv2.size)
 by_cases h4:n≤4000
 rotate_left
 ·have d4:decide (4000<n)=true:=decide_eq_true (by omega)
  obtain rfl:o=none:=by rw[HO.out,if_neg (fun x=>h4 x.2.2.2.1)]
  go_wp2;go_ret2;exact⟨rfl,hv3⟩
 have d4:decide (4000<n)=false:=decide_eq_false (by omega)
 by_cases h5:n.toNat+2≤r.length
 rotate_left
 ·have d5:decide ((r.length:Int)<n+2)=true:=decide_eq_true (by omega)
  obtain rfl:o=none:=by rw[HO.out,if_neg (fun x=>h5 x.2.2.2.2.1)]
  go_wp2;go_ret2;exact⟨rfl,hv3⟩
 have d5:decide ((r.length:Int)<n+2)=false:=decide_eq_false (by omega);have hx:=fun W:World=>run_slice_string (P:=prog) (w:=W) 9 ⟨r.toArray⟩ .i64 .i64 n (n+2) underlying9 h2 (by omega) (by show n+2≤(r.length:Int);omega)
 rw[M7,show(n+2).toNat-n.toNat=2 by omega] at hx;have hi0:n≤(r.length:Int):=by omega
 by_cases h6:(r.drop n.toNat).take 2=[10,46]
 ·obtain rfl:o=some (r.take n.toNat):=by rw[HO.out,if_pos ⟨h1,h2,h3,h4,h5,h6⟩]
  rw[h6] at hx;clear HO;go_wp2;go_ret2;exact⟨by first|rfl|simp[M7],hv3⟩
 ·obtain rfl:o=none:=by rw[HO.out,if_neg (fun x=>h6 x.2.2.2.2.2)]
  clear HO;generalize (r.drop n.toNat).take 2=q at *;have hqb:(q==[10,46])=false:=by simpa using h6
  go_wp2;go_ret2;exact⟨rfl,hv3⟩
theorem zF6(b:List UInt8):(A9 b).length≤b.length:=(List.takeWhile_prefix _).length_le
theorem zIq(b:List UInt8)(w:World)(hT:Bf w)(hs:b.length≤4294967280) :
 Calls prog 156 #[.string ⟨b.toArray⟩] w fun e w'=>e=.returned (.tuple #[.string ⟨((Iu b).getD []).toArray⟩,.bool (Iu b).isSome])∧Below w.heap.size w w':=by
 by_cases h:(A9 b).length<b.length
 ·by_cases hg:∃n,Lib.atoiAll (A9 b)=.ok n
  ·obtain⟨n,hn⟩:=hg
   exact zIs b _ _ n _ w hT hs (by omega) (zBl h) hn (zGt h hn)
  ·have hn:∀n,Lib.atoiAll (A9 b)≠.ok n:=fun n e=>hg ⟨n,e⟩
   rw[zIr hn];exact zDe b w hT hs h hn
 ·have hO:Iu b=none:=by unfold Iu;rw[if_neg h]
  rw[hO];exact zDd b w hT hs h
theorem Rs:∀l:List (List UInt8),l.length≤(l.flatMap A7).length
 | []=>Nat.zero_le _
 | s::l=>by
  have:=L7 s;have:=Rs l;rw[List.flatMap_cons,List.length_append,List.length_cons];omega
theorem Hr(xs:List (List UInt8))(x:List UInt8):Ad (xs++[x])=Ad xs++[.string ⟨x.toArray⟩]:=by simp[Ad]
theorem zDv(b:List UInt8)(l:List (List UInt8))(hP:H5 b l)(w:World)(hT:Bf w)(hs:b.length≤300000) :
 Calls prog 109 #[.string ⟨b.toArray⟩] w fun e w'=>∃v,e=.returned (.tuple #[v,.int .i64 ((l.flatMap A7).length:Nat)])∧w'.ownsRow w.heap.size 9 1 v l.length (Ad l)∧Below w.heap.size w w':=by
 obtain⟨i0,hi,hz0,hz1,hz2⟩:=info_parts Do;have hi':=zh hi;have hz0':=zh hz0;have hz1':=zh hz1;have hz2':=zh hz2;obtain⟨hlen,r,hb,hr⟩:=hP
 have HA:Hid (∀k,((l.take k).flatMap A7).length≤b.length):=fun k=>by
  conv=>rhs;rw[hb,←List.take_append_drop k l]
  rw[List.flatMap_append,List.append_assoc,List.length_append];omega
 have HD:Hid (∀k,b.drop ((l.take k).flatMap A7).length=(l.drop k).flatMap A7++r):=fun k=>by
  conv=>lhs;rw[hb,←List.take_append_drop k l]
  rw[List.flatMap_append,List.append_assoc,List.take_append_drop,List.drop_left]
 have HO:=zh (fun(c:List UInt8) (W:World) (h:Below w.heap.size w W) (hc:c.length≤300000)=>zIq c W (hT.below h) (by omega));have HR:=zh (fun(c:List UInt8) (W:World) (h:Below w.heap.size w W) (hc:c.length≤4000)=>Sx c W (hT.below h) (by omega));have HL:=zh hlen
 have hll:l.length≤300000:=by
  have h1:=Rs l;have h2:=congrArg List.length hb;rw[List.length_append] at h2;omega
 have HE:=zh hr
 have HX:=zh (fun(W:World) (k:Nat) (hk:k≤b.length)=>show(Instr.slice 9 (.string ⟨b.toArray⟩) (some (.int .i64 k)) none none).run prog W=.ok (.string ⟨(b.drop k).toArray⟩) W by
  rw[run_slice_string_l W 9 ⟨b.toArray⟩ underlying9 .i64 k (by omega) (by show(k:Int)≤(b.length:Int);omega),Int.toNat_natCast,M7]
  rw[List.take_of_length_le (by show(b.drop k).length≤b.length-k;simp)])
 clear hi hz0 hz1 hz2 hT hb hr hlen;go_enter func109,ntmps109;go_wp2;go_loopw [4,5] (fun v i wr=>∃k:Nat,k≤l.length∧i=.int .i64 (((l.take k).flatMap A7).length:Nat)∧wr.ownsRow w.heap.size 9 1 v k (Ad (l.take k))∧Below w.heap.size w wr) (fun _ i _=>b.length+1-(intOf i).toNat)
 case atStart=>exact⟨0,Nat.zero_le _,rfl,World.ownsRow_nil _ _ _ _,Below.refl _ _⟩
 case round=>
  obtain⟨k,hk,rfl,hown,hbw⟩:=hrel;have hA:=HA.out k;have hdl:(b.drop ((l.take k).flatMap A7).length).length≤300000:=by rw[List.length_drop];omega
  have hx:=fun W:World=>HX.out W _ hA
  by_cases hlt:k<l.length
  ·have hd:b.drop ((l.take k).flatMap A7).length=A7 l[k]++((l.drop (k+1)).flatMap A7++r):=by
    rw[HD.out k,List.drop_eq_getElem_cons hlt,List.flatMap_cons,List.append_assoc]
   have hsl:=HL.out _ (List.getElem_mem hlt);have ho:=Ii hsl ((l.drop (k+1)).flatMap A7++r);rw[←hd] at ho;have ht:l.take (k+1)=l.take k++[l[k]]:=List.take_succ_eq_append_getElem hlt;have hn:((l.take (k+1)).flatMap A7).length=((l.take k).flatMap A7).length+(A7 l[k]).length:=by rw[ht,List.flatMap_append,List.length_append,List.flatMap_cons,List.flatMap_nil,List.append_nil]
   have hA2:=HA.out (k+1);have hr4:=L7 l[k];have K1:=zh (fun W h=>HO.out _ W h hdl);rw[ho] at K1;have K2:=zh (fun W h=>HR.out l[k] W h hsl);rw[hn] at hA2;have HN:=zh hn;have HT:=zh ht;simp only[Option.getD_some,Option.isSome_some] at K1;clear ht hn ho hd hsl;generalize l[k]=s at *;generalize b.drop ((l.take k).flatMap A7).length=c at *;generalize A7 s=rs at *;generalize ((l.take k).flatMap A7).length=A at *;go_wp2_with fail;refine(K1.out _ hbw).mono ?_;rintro e w2⟨rfl,hb2⟩;have hv2:=hbw.trans (hb2.mono hbw.size);have hown:=Cb hown hb2;have HO2:=zh (hown.alloc (.cells #[.string ⟨s.toArray⟩] 9));have HW:=zh (Ac.new_at w2 [.string ⟨s.toArray⟩] 9 _ rfl);have HV:=zh (hv2.alloc hv2.size (.cells #[.string ⟨s.toArray⟩] 9));clear hown hx;go_wp2_with (at_builtin;refine Ag _ rfl (.tmp 19) (.tmp 21) 22 rfl w.heap.size 9 i0 _ 1 16 underlying22 hi'.out hz0'.out hz1'.out hz2'.out rfl (by decide) _ k (Ad (l.take k)) rfl HO2.out (some ⟨w2.heap.size,0,none⟩) 1 1 [.string ⟨s.toArray⟩] rfl rfl HW.out ?_ ?_ ?_ ?_ ?_;(simp[Value.oneCell']);(unfold maxLen;omega);(omega);(exact HV.out.size);intro v1 w5 ho1 hg1 hq hm1;clear hq hm1);have hv5:=HV.out.grown hg1 HV.out.size (fun j e=>(HO2.out.lt j e).1);go_wp2_with fail;refine(K2.out _ hv5).mono ?_;rintro e w6⟨rfl,hb6⟩;have ho6:=Cb ho1 hb6;have hv6:=hv5.trans (hb6.mono hv5.size);go_wp2;go_roundw
   case rel=>exact⟨k+1,by omega,by rw[HN.out];go_num,by rw[HT.out,Hr];exact ho6,hv6⟩
   case measure=>simp[intOf];omega
  ·obtain rfl:k=l.length:=by omega
   have ho:Iu (b.drop ((l.take l.length).flatMap A7).length)=none:=by rw[HD.out,List.drop_length];exact HE.out
   have K1:=zh (fun W h=>HO.out _ W h hdl);rw[ho] at K1;simp only[Option.getD_none,Option.isSome_none] at K1;clear ho;generalize b.drop ((l.take l.length).flatMap A7).length=c at *;rw[List.take_length] at *;generalize hAq:(l.flatMap A7).length=A at *;have HQ:=zh hAq;clear hAq;go_wp2_with fail;refine(K1.out _ hbw).mono ?_;rintro e w2⟨rfl,hb2⟩;have hv2:=hbw.trans (hb2.mono hbw.size);have hown:=Cb hown hb2;go_wp2;go_ret2;exact⟨_,by rw[HQ.out];rfl,hown,hv2⟩
def apF(s:Dk)(t:List UInt8):Dk×Nat:=if 4000<t.length then(s,2) else if 262144<s.b.length+(A7 t).length then(s,7) else wrF s (A7 t)
theorem Td(ea:Nat→Addr)(base D:Nat)(s:Dk)(t:List UInt8)(w:World)(hg:Bh w ea [2,7,11])(hT:Bf w)(hD:Bo w base D s)(hb:base≤w.heap.size)(ht:t.length≤4294967280)(hgb:gOf 11<base)(hc : -9223372036854775808≤s.cut∧s.cut≤9223372036854775807) :
 Calls prog 38 #[.pointer (some ⟨D,0,none⟩),.string ⟨t.toArray⟩] w fun e w'=>e=.returned (Bm ea (apF s t).2)∧Bo w' base D (apF s t).1∧Ec base D w w':=by
 have KR:=zh (fun(W:World) (h:Below w.heap.size w W)=>Sx t W (hT.below h) ht);have KW:=zh (fun(W:World) (h:Below w.heap.size w W) (hl:s.b.length+(A7 t).length≤262144)=>Tr ea base D s (A7 t) W ((hg.below h).sub (by simp)) (hD.below h) (Nat.le_trans hb h.size) hl hgb hc);have g2:=hg.cell 2 (by simp);have hG:=zh (fun(W:World) (h:Below w.heap.size w W)=>(hg.below h).cell 7 (by simp));simp only[gOf] at g2 hG;have hrl:=Mp t ht;have hbl:s.b.length≤262144:=hD.2.1;have hwr:IntKind.i64.wrap (262144-(s.b.length:Int))=262144-(s.b.length:Int):=IntWalk.i64_in _ (by omega)
 by_cases h1:4000<t.length
 ·have hF:apF s t=(s,2):=by rw[apF,if_pos h1]
  rw[hF];have d1:decide ((4000:Int)<(t.length:Int))=true:=decide_eq_true (by omega);clear KR KW hG hT hwr;go_enter func38,ntmps38;go_wp2;go_ret;exact⟨rfl,hD,Ec.refl _ _ _⟩
 ·have d1:decide ((4000:Int)<(t.length:Int))=false:=decide_eq_false (by omega)
  have hD':=hD;obtain⟨hB,hl,v,hK,hv⟩:=hD;obtain⟨av,cv,rfl⟩:=hv.shape;have hK1:Af w.drew D 104 #[.slice av s.b.length cv,.bool s.off,.int .i64 s.cut]:=hK;have k0:=hK1.cell 0 rfl;have hv1:Below w.heap.size w w.drew:=zb.drew;have A1:=zh (KR.out _ hv1)
  by_cases h2:262144<s.b.length+(A7 t).length
  ·have hF:apF s t=(s,7):=by rw[apF,if_neg h1,if_pos h2]
   rw[hF];have d2:decide (IntKind.i64.wrap (262144-(s.b.length:Int))<((A7 t).length:Int))=true:=by rw[hwr];exact decide_eq_true (by omega)
   clear hwr;generalize A7 t=rt at *;generalize s.b.length=bl at *;clear KW hT hv;go_enter func38,ntmps38;go_wp2
   go_region_held3 (fun w'=>w'.cell? ⟨D,0,none⟩=some (.slice av bl cv)) (go_keep)
    (first
     | (go_at_call 86;(with_reducible refine A1.out.mono ?_);rintro e w2⟨rfl,hb2⟩;have hv2:=hv1.trans (hb2.mono hv1.size);have k0:=(hK1.kept hb2).cell 0 rfl;have g7:=hG.out _ hv2;clear hb2))
   go_wp2;go_ret;exact⟨rfl,hD'.below hv2,Ec.of hv2 hb hD'.lt⟩
  ·have hF:apF s t=wrF s (A7 t):=by rw[apF,if_neg h1,if_neg h2]
   rw[hF];have d2:decide (IntKind.i64.wrap (262144-(s.b.length:Int))<((A7 t).length:Int))=false:=by rw[hwr];exact decide_eq_false (by omega)
   clear hwr;have K2:=zh (fun W h=>KW.out W h (by omega));generalize wrF s (A7 t)=st at *;generalize A7 t=rt at *;generalize s.b.length=bl at *;clear KW hT hv;go_enter func38,ntmps38;go_wp2
   go_region_held3 (fun w'=>w'.cell? ⟨D,0,none⟩=some (.slice av bl cv)) (go_keep)
    (first
     | (go_at_call 86;(with_reducible refine A1.out.mono ?_);rintro e w2⟨rfl,hb2⟩;have hv2:=hv1.trans (hb2.mono hv1.size);have k0:=(hK1.kept hb2).cell 0 rfl;clear hb2))
   go_wp2_with fail;refine(KR.out _ hv2).mono ?_;rintro e w3⟨rfl,hb3⟩;have hv3:=hv2.trans (hb3.mono hv2.size);go_wp2_with fail;refine(K2.out _ hv3).mono ?_;rintro e w4⟨rfl,hD4,hS4⟩;go_wp2;go_ret;exact⟨rfl,hD4,(Ec.of hv3 hb hD'.lt).trans hS4⟩
theorem We{w:World}{base D size n:Nat}{e:TypeId}{cs:Array Value}{v:Value}{xs:List Value}(h:w.ownsRow base e size v n xs)(hK:Af w D 104 cs)(he:e≠104)(i:Nat)(u:Value):(w.setCell ⟨D,i,none⟩ u).ownsRow base e size v n xs:=by
 refine⟨h.1,?_⟩
 rcases h.2 with h|⟨g,cap,cur,h1,h2,h3,h4⟩
 ·exact Or.inl h
 ·have hne:g≠D:=by
   rintro rfl;rw[show w.heap[g]?=_ from hK] at h3;simp at h3;exact he h3.2.symm
  exact Or.inr ⟨g,cap,cur,h1,h2,(heap_setCell_other _ _ _ _ (by simpa using hne)).trans h3,h4⟩
theorem Yn(base D:Nat)(s:Dk)(l:List (List UInt8))(hP:H5 s.b l)(w:World)(hD:Bo w base D s)(hb:base≤w.heap.size)(hvars:∀W,Ec base D w W→Bf W) :
 Calls prog 62 #[.pointer (some ⟨D,0,none⟩)] w fun e w'=>∃v,e=.returned (.tuple #[v,.nilIface])∧w'.ownsRow w.heap.size 9 1 v l.length (Ad l)∧Bo w' base D ⟨s.b.take (l.flatMap A7).length,false,-1⟩∧Ec base D w w':=by
 have KO:=zh (Zq base D s w hD);have hbl:s.b.length≤262144:=hD.2.1;have KR:=zh (fun(W:World) (h:Ec base D w W)=>zDv s.b l hP W (hvars W h) (by omega));obtain⟨hPl,r,hPb,_⟩:=hP;have hn:(l.flatMap A7).length≤s.b.length:=by rw[hPb,List.length_append];omega
 clear hD hPb hPl;generalize (l.flatMap A7).length=n at *;go_enter func62,ntmps62;go_wp2_with fail;refine KO.out.mono ?_;rintro e w1⟨rfl,hD1,hS1⟩;obtain⟨hB,hl,v,hK,hv⟩:=hD1;obtain⟨av,cv,rfl⟩:=hv.shape;have hrun:=M1 w1 base _ _ hv;have k0:=hK.cell 0 rfl;go_wp2_with fail;refine(KR.out _ hS1).mono ?_;rintro e w2⟨rv,rfl,hown,hb2⟩;have hS2:=hS1.trans (Ec.of hb2 (Nat.le_trans hb hS1.size) hK.lt);have hK2:=hK.kept hb2;have hv2:=hv.below hb2;have c0:=hK2.cell 0 rfl;have q0:=hK2.frozen 0;have hi0:(0:Int)≤(n:Int):=by omega
 obtain⟨hcut,hcv⟩:=hv2.cut2 hn;have hi1:(n:Int)≤(cv:Int):=by omega
 go_wp2;go_ret2;have hl2:(s.b.take n).length=n:=by rw[List.length_take];omega
 have hK3:Af (w2.setCell ⟨D,0,none⟩ (.slice av n n)) D 104 #[.slice av n n,.bool false,.int .i64 (-1)]:=by have:=hK2.set 0 (.slice av n n);simpa using this
 have hv3:Eg (w2.setCell ⟨D,0,none⟩ (.slice av n n)) base (.slice av n n) (s.b.take n):=hcut.kept fun g hg=>heap_setCell_other _ _ _ _ (by simpa using hcut.apart hK2 g hg)
 refine⟨_,rfl,?_,⟨hB,by show(s.b.take n).length≤262144;omega,_,hK3,hv3⟩,hS2.trans (Ec.setDisk hK2 hB _ _ (Or.inr (by cases av<;>rfl)))⟩;refine We (C0 hown hS1.size) hK2 (by decide) _ _
end Go.Proofs.YtppfkokfnoeopaaGreatDoor
