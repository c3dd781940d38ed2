/- A part of a proof. -/
import Derived.Lib.IndexMore
import Derived.Lib.Join
import Derived.Laws.Rows
import Derived.Lib.SmallJoins
import Derived.Test.YtppfkokfnoeopaaGreatDoorSFrm
import Derived.Test.YtppfkokfnoeopaaGreatDoorSClique
set_option maxRecDepth 400000
set_option maxHeartbeats 6400000
namespace Go.Proofs.YtppfkokfnoeopaaGreatDoor
open Go.RowKit
def Jk(e:Ent):List UInt8:=if e.heard then Lib.itoa e.frm++([58]++Lib.itoa e.value) else Lib.itoa e.frm++[33]
def Fb(es:List Ent):List UInt8:=if es=[] then[45] else Lib.join (es.map Jk) [44]
def Fo(l:List Int)(e:Ent):List Int:=if e.heard then l.set (e.frm-1).toNat e.value else l
def Dr(es:List Ent):List Int:=es.foldl Fo (List.replicate 16 0)
theorem K9:∀(es:List Ent) (l:List Int),(es.foldl Fo l).length=l.length
 | [],_=>rfl
 | e::r,l=>by rw[List.foldl_cons,K9 r];unfold Fo;split<;>simp
theorem Gb(es:List Ent):(Dr es).length=16:=by rw[Dr,K9];rfl
theorem R4(es:List Ent)(k:Nat)(hk:k<es.length):Dr (es.take (k+1))=Fo (Dr (es.take k)) es[k]:=by
 rw[Dr,List.take_succ_eq_append_getElem hk,List.foldl_append];rfl
theorem Pu:∀(es:List Ent) (i:Int) (k:Nat) (hk:k<es.length),(Co i es).1=0→Bu (i+k) es[k]=0
 | [],_,k,hk,_=>absurd hk (Nat.not_lt_zero _)
 | e::r,i,k,hk,h=>by
  rw[Co] at h
  split at h
  ·rename_i h0
   cases k with
   | zero=>simpa using h0
   | succ k=>
    have:=Pu r (i+1) k (by simpa using hk) h;rw[List.getElem_cons_succ]
    rwa [show i+((k+1:Nat):Int)=i+1+(k:Int) by omega]
  ·rename_i h0;exact absurd h h0
theorem Hf{es:List Ent}(h:(chk es).1=0)(k:Nat)(hk:k<es.length):es[k].slot=k∧Aq es[k].frm=true∧Cr es[k].value=true∧(es[k].heard=false→es[k].value=0):=by
 rw[chk] at h
 split at h
 ·cases h
 ·have:=Pu es 0 k hk h
  rw[Bu] at this
  split at this
  ·cases this
  ·rename_i h1
   split at this
   ·cases this
   ·rename_i h2
    split at this
    ·cases this
    ·rename_i h3
     split at this
     ·cases this
     ·rename_i h4
      refine⟨by omega,by simpa using h2,by simpa using h3,fun hh=>?_⟩
      by_cases hv:es[k].value=0
      ·exact hv
      ·exact absurd ⟨hh,hv⟩ h4
theorem Vt{es:List Ent}(h:(chk es).1=0):es.length≤200:=by
 rw[chk] at h
 split at h
 ·cases h
 ·omega
theorem Lt:∀(es:List Ent) (l:List Int),(∀e∈es,Cr e.value=true)→(∀v∈l,-1048576≤v∧v≤1048576)→∀v∈es.foldl Fo l,-1048576≤v∧v≤1048576
 | [],_,_,h=>h
 | e::r,l,he,h=>by
  refine Lt r _ (fun x hx=>he x (List.mem_cons_of_mem _ hx)) ?_;have h1:=he e (by simp);simp only[Cr,decide_eq_true_eq] at h1;unfold Fo
  split
  ·intro v hv
   rcases List.mem_or_eq_of_mem_set hv with hv|rfl
   ·exact h v hv
   ·omega
  ·exact h
theorem X4{es:List Ent}(h:(chk es).1=0):∀v∈Dr es,-1048576≤v∧v≤1048576:=by
 refine Lt es _ (fun e he=>?_) (fun v hv=>by have:=List.eq_of_mem_replicate hv;omega);obtain⟨k,hk,rfl⟩:=List.getElem_of_mem he;exact(Hf h k hk).2.2.1
theorem Vk:∀(l:List Int),(∀v∈l,-1048576≤v∧v≤1048576)→-(1048576*(l.length:Int))≤l.sum∧l.sum≤1048576*(l.length:Int)
 | [],_=>by simp
 | x::r,h=>by
  have h1:=h x (by simp);have ih:=Vk r (fun v hv=>h v (List.mem_cons_of_mem _ hv));rw[List.sum_cons,List.length_cons];omega
theorem Io{es:List Ent}(h:(chk es).1=0)(k:Nat) : -16777216≤((Dr es).take k).sum∧((Dr es).take k).sum≤16777216:=by
 have h1:=Vk ((Dr es).take k) (fun v hv=>X4 h v (List.mem_of_mem_take hv));have h2:((Dr es).take k).length≤16:=by rw[List.length_take,Gb];omega
 omega
theorem Y7(l:List Int)(k:Nat)(hk:k<l.length):(l.take (k+1)).sum=(l.take k).sum+l[k]:=by
 rw[List.take_succ_eq_append_getElem hk,List.sum_append];simp
theorem Xo{e:Ent}(h1:Aq e.frm=true)(h2:Cr e.value=true):(Jk e).length≤12:=by
 simp only[Aq,Cr,decide_eq_true_eq] at h1 h2;have e2:(10:Nat)^2=100:=by decide
 have e7:(10:Nat)^7=10000000:=by decide
 have l1:=Ib e.frm 2 (by omega) (by omega);have l2:=Ib e.value 7 (by omega) (by omega);unfold Jk
 split<;>(simp only[List.length_append,List.length_cons,List.length_nil];omega)
theorem Nb:∀(l:List (List UInt8)),(∀x∈l,x.length≤12)→(Lib.join l [44]).length≤l.length*13
 | [],_=>by simp[Lib.join,List.intercalate]
 | [x],h=>by have:=h x (by simp);simp[Lib.join,List.intercalate];omega
 | x::y::r,h=>by
  have ih:=Nb (y::r) (fun z hz=>h z (List.mem_cons_of_mem _ hz));have hx:=h x (by simp);simp only[Lib.join,List.intercalate,List.intersperse,List.flatten_cons,List.length_append,List.length_cons,List.length_nil] at ih ⊢;omega
theorem Mh{es:List Ent}(h:(chk es).1=0):(Fb es).length≤2600:=by
 unfold Fb
 split
 ·decide
 ·have:=Vt h
  refine Nat.le_trans (Nb (es.map Jk) (fun x hx=>?_)) (by rw[List.length_map];omega);obtain⟨e,he,rfl⟩:=List.mem_map.1 hx;obtain⟨k,hk,rfl⟩:=List.getElem_of_mem he;exact Xo (Hf h k hk).2.1 (Hf h k hk).2.2.1
theorem zBz{l:List UInt8}(h:Aw l=false):Ah l=0:=by
 unfold Aw at h;unfold Ah
 cases hf:Cl l with
 | none=>rfl
 | some n=>rw[hf] at h;cases h
def Gz(n:Int)(es:List Ent):Int:=es.foldl (fun v e=>if e.frm=n∧e.heard=true then e.value else v) 0
theorem Uu(n:Int)(es:List Ent)(k:Nat)(hk:k<es.length)(h:es[k].frm=n∧es[k].heard=true):Gz n (es.take (k+1))=es[k].value:=by
 rw[Gz,List.take_succ_eq_append_getElem hk,List.foldl_append];simp only[List.foldl_cons,List.foldl_nil];rw[if_pos h]
theorem R8(n:Int)(es:List Ent)(k:Nat)(hk:k<es.length)(h:¬(es[k].frm=n∧es[k].heard=true)):Gz n (es.take (k+1))=Gz n (es.take k):=by
 rw[Gz,List.take_succ_eq_append_getElem hk,List.foldl_append];simp only[List.foldl_cons,List.foldl_nil];rw[if_neg h];rfl
def Gc(es:List Ent)(m:Nat):List Int:=(List.range m).map fun i:Nat=>Gz ((i:Int)+1) es
theorem Z7(es:List Ent)(m:Nat):Gc es (m+1)=Gc es m++[Gz ((m:Int)+1) es]:=by
 rw[Gc,List.range_succ,List.map_append];rfl
theorem Oe(es:List Ent)(m:Nat):(Gc es m).length=m:=by simp[Gc]
theorem Kn(c:UInt8):∀(ws:List (List UInt8)) (w:List UInt8),ws≠[]→Cv c (ws++[w])=Cv c ws++c::w
 | [],_,h=>absurd rfl h
 | [x],w,_=>by rw[List.cons_append,List.nil_append,Er c x (by simp)];rfl
 | x::y::r,w,_=>by
  rw[List.cons_append,Er c x (by simp),Kn c (y::r) w (by simp),Er c x (by simp),List.append_assoc];rfl
def I6(es:List Ent)(k:Nat):List UInt8:=Cv 44 ((es.take k).map Jk)
theorem zCv(es:List Ent)(h:0<es.length):I6 es 1=Jk es[0]:=by
 rw[I6,List.take_succ_eq_append_getElem h];rfl
theorem Z4(es:List Ent)(k:Nat)(hk:k<es.length)(h0:0<k):I6 es (k+1)=I6 es k++([44]++Jk es[k]):=by
 rw[I6,List.take_succ_eq_append_getElem hk,List.map_append,List.map_cons,List.map_nil,Kn]
 ·rfl
 ·intro e
  have:=congrArg List.length e;simp only[List.length_map,List.length_take,List.length_nil] at this;omega
theorem zCt(es:List Ent)(h:es≠[]):I6 es es.length=Fb es:=by
 rw[I6,List.take_length,Fb,if_neg h,Et]
theorem zCu{es:List Ent}(h:(chk es).1=0)(k:Nat):(I6 es k).length≤2600:=by
 have hl:=Vt h;rw[I6,←Et];refine Nat.le_trans (Nb _ (fun x hx=>?_)) (by rw[List.length_map,List.length_take];omega);obtain⟨e,he,rfl⟩:=List.mem_map.1 hx;obtain⟨j,hj,rfl⟩:=List.getElem_of_mem (List.mem_of_mem_take he);exact Xo (Hf h j hj).2.1 (Hf h j hj).2.2.1
end Go.Proofs.YtppfkokfnoeopaaGreatDoor
namespace Go.Proofs.YtppfkokfnoeopaaGreatDoor
open Go.RowKit Go.Proofs.Tryz
def Arr(W:World)(b:Nat)(t:TypeId)(l:List Int):Prop:=W.heap[b]?=some (.cells (Aa l).toArray t (0,0))
theorem Arr.lt{W:World}{b:Nat}{t:TypeId}{l:List Int}(h:Arr W b t l):b<W.heap.size:=(Array.getElem?_eq_some_iff.1 h).1
theorem Arr.cell{W:World}{b:Nat}{t:TypeId}{l:List Int}(h:Arr W b t l)(i:Nat)(hi:i<l.length):W.cell? ⟨b,i,none⟩=some (.int .i64 l[i]):=by
 simp[World.cell?,show W.heap[b]?=_ from h,Aa,hi]
theorem Arr.frozen{W:World}{b:Nat}{t:TypeId}{l:List Int}(h:Arr W b t l)(i:Nat):W.frozen? ⟨b,i,none⟩=false:=by simp[World.frozen?,show W.heap[b]?=_ from h]
theorem Arr.kept{W W':World}{b:Nat}{t:TypeId}{l:List Int}(h:Arr W b t l)(hb:Below W.heap.size W W'):Arr W' b t l:=(hb.block b h.lt).trans h
theorem Arr.set{W:World}{b:Nat}{t:TypeId}{l:List Int}(h:Arr W b t l)(i:Nat)(v:Int):Arr (W.setCell ⟨b,i,none⟩ (.int .i64 v)) b t (l.set i v):=by
 have h':W.heap[b]?=_:=h;have hlt:=h.lt;unfold Arr World.setCell;simp[Array.getElem?_modify,h',Aa]
theorem Arr.other{W:World}{b:Nat}{t:TypeId}{l:List Int}(h:Arr W b t l){c:Nat}(hc:b≠c)(i:Nat)(v:Value):Arr (W.setCell ⟨c,i,none⟩ v) b t l:=by
 unfold Arr;rw[Below.heap_setCell _ _ _ _ (by simpa using hc)];exact h
theorem Arr.size{l:List Int}:(Aa l).toArray.size=l.length:=by simp[Aa]
theorem zC0:(prog.info? 235).map (·.size)=some 16:=by kernel_rfl
theorem zKf{α:Type}:∀(l:List α),l.length=16→∃a0 a1 a2 a3 a4 a5 a6 a7 a8 a9 a10 a11 a12 a13 a14 a15,l=[a0,a1,a2,a3,a4,a5,a6,a7,a8,a9,a10,a11,a12,a13,a14,a15]
 | [a0,a1,a2,a3,a4,a5,a6,a7,a8,a9,a10,a11,a12,a13,a14,a15],_=>⟨a0,a1,a2,a3,a4,a5,a6,a7,a8,a9,a10,a11,a12,a13,a14,a15,rfl⟩
theorem zCs(a:Option Addr)(n cap:Nat)(es:List Ent)(w:World)(hn:es.length=n)(hr:Ac w a (Av es))(hm:n≤4611686018427387904)(hf:∀k (hk:k<es.length),1≤es[k].frm∧es[k].frm≤16) :
 Calls prog 177 #[.slice a n cap] w fun e w'=>e=.returned (.agg (Aa (Dr es)).toArray)∧Below w.heap.size w w':=by
 have h1:Arr ((w.alloc (.cells #[.int .i64 0,.int .i64 0,.int .i64 0,.int .i64 0,.int .i64 0,.int .i64 0,.int .i64 0,.int .i64 0,.int .i64 0,.int .i64 0,.int .i64 0,.int .i64 0,.int .i64 0,.int .i64 0,.int .i64 0,.int .i64 0] 235)).alloc (.cells #[.int .i64 0,.int .i64 0,.int .i64 0,.int .i64 0,.int .i64 0,.int .i64 0,.int .i64 0,.int .i64 0,.int .i64 0,.int .i64 0,.int .i64 0,.int .i64 0,.int .i64 0,.int .i64 0,.int .i64 0,.int .i64 0] 235)) (w.heap.size+1) 235 (List.replicate 16 0):=by
  have:=World.alloc_heap_new (w.alloc (.cells #[.int .i64 0,.int .i64 0,.int .i64 0,.int .i64 0,.int .i64 0,.int .i64 0,.int .i64 0,.int .i64 0,.int .i64 0,.int .i64 0,.int .i64 0,.int .i64 0,.int .i64 0,.int .i64 0,.int .i64 0,.int .i64 0] 235)) (.cells #[.int .i64 0,.int .i64 0,.int .i64 0,.int .i64 0,.int .i64 0,.int .i64 0,.int .i64 0,.int .i64 0,.int .i64 0,.int .i64 0,.int .i64 0,.int .i64 0,.int .i64 0,.int .i64 0,.int .i64 0,.int .i64 0] 235);rw[World.size_alloc] at this;exact this
 have h0:Arr ((w.alloc (.cells #[.int .i64 0,.int .i64 0,.int .i64 0,.int .i64 0,.int .i64 0,.int .i64 0,.int .i64 0,.int .i64 0,.int .i64 0,.int .i64 0,.int .i64 0,.int .i64 0,.int .i64 0,.int .i64 0,.int .i64 0,.int .i64 0] 235)).alloc (.cells #[.int .i64 0,.int .i64 0,.int .i64 0,.int .i64 0,.int .i64 0,.int .i64 0,.int .i64 0,.int .i64 0,.int .i64 0,.int .i64 0,.int .i64 0,.int .i64 0,.int .i64 0,.int .i64 0,.int .i64 0,.int .i64 0] 235)) w.heap.size 235 (List.replicate 16 0):=
  Arr.kept (World.alloc_heap_new w _) (zb.alloc zl _)
 have hb0:=Joins.below_alloc2 w (.cells #[.int .i64 0,.int .i64 0,.int .i64 0,.int .i64 0,.int .i64 0,.int .i64 0,.int .i64 0,.int .i64 0,.int .i64 0,.int .i64 0,.int .i64 0,.int .i64 0,.int .i64 0,.int .i64 0,.int .i64 0,.int .i64 0] 235) (.cells #[.int .i64 0,.int .i64 0,.int .i64 0,.int .i64 0,.int .i64 0,.int .i64 0,.int .i64 0,.int .i64 0,.int .i64 0,.int .i64 0,.int .i64 0,.int .i64 0,.int .i64 0,.int .i64 0,.int .i64 0,.int .i64 0] 235);have HN:=zh hn;clear hn;go_enter func177,ntmps177;go_wp2;generalize (w.alloc (.cells #[.int .i64 0,.int .i64 0,.int .i64 0,.int .i64 0,.int .i64 0,.int .i64 0,.int .i64 0,.int .i64 0,.int .i64 0,.int .i64 0,.int .i64 0,.int .i64 0,.int .i64 0,.int .i64 0,.int .i64 0,.int .i64 0] 235)).alloc (.cells #[.int .i64 0,.int .i64 0,.int .i64 0,.int .i64 0,.int .i64 0,.int .i64 0,.int .i64 0,.int .i64 0,.int .i64 0,.int .i64 0,.int .i64 0,.int .i64 0,.int .i64 0,.int .i64 0,.int .i64 0,.int .i64 0] 235)=W0 at *;go_loopw [8] (fun i wr=>∃k:Nat,k≤n∧i=.int .i64 k∧Arr wr w.heap.size 235 (List.replicate 16 0)∧Arr wr (w.heap.size+1) 235 (Dr (es.take k))∧Below w.heap.size w wr) (fun i _=>n-(intOf i).toNat)
 case atStart=>exact⟨0,Nat.zero_le _,rfl,h0,h1,hb0⟩
 case round=>
  clear h0 h1 hb0;obtain⟨k,hk,rfl,hA,hB,hb⟩:=hrel
  by_cases hlt:k<n
  ·have hk1:k<es.length:=by have:=HN.out;omega
   obtain⟨b,off,rfl,hbl,c0,c1,c2,c3⟩:=(hr.below hb).ent k hk1;have hS:=zh (R4 es k hk1);have hfk:=hf k hk1;have hi0:(0:Int)≤(k:Int):=by omega
   have hi1:(k:Int)<(n:Int):=by omega
   have hlen:=Gb (es.take k);generalize es[k]=e at *;generalize Dr (es.take k)=L at *
   cases hh:e.heard
   ·have HS:Hid (Dr (es.take (k+1))=L):=by unfold Hid;rw[hS.out,Fo,if_neg (by simp[hh])]
    rw[hh] at c2;clear hS hh;go_wp2;have hbe:=Below.alloc (Below.refl wr.heap.size wr) zl (.cells #[.int .i64 e.slot,.int .i64 e.frm,.bool false,.int .i64 e.value] 146);go_roundw
    case rel=>exact⟨k+1,by omega,by go_num,hA.kept hbe,by rw[HS.out];exact hB.kept hbe,hb.alloc hb.size _⟩
    case measure=>simp[intOf];omega
   ·have HS:Hid (Dr (es.take (k+1))=L.set (e.frm.toNat-1) e.value):=by unfold Hid;rw[hS.out,Fo,if_pos hh,show(e.frm-1).toNat=e.frm.toNat-1 by omega]
    rw[hh] at c2;have hbe:=Below.alloc (Below.refl wr.heap.size wr) zl (.cells #[.int .i64 e.slot,.int .i64 e.frm,.bool true,.int .i64 e.value] 146);have hcl:=(hB.kept hbe).cell (e.frm.toNat-1) (by omega);have hfz:=(hB.kept hbe).frozen (e.frm.toNat-1);generalize L[e.frm.toNat-1]=old at *;clear hS hh;go_wp2;go_roundw
    case rel=>exact⟨k+1,by omega,by go_num,(hA.kept hbe).other (by omega) _ _,by rw[HS.out];exact(hB.kept hbe).set _ _,(hb.alloc hb.size _).setCell (by simp) _⟩
    case measure=>simp[intOf];omega
  ·have HL:Hid (Dr (es.take k)=Dr es):=by unfold Hid;rw[List.take_of_length_le (by have:=HN.out;omega)]
   have hL16:=Gb (es.take k);obtain⟨L,hL⟩:∃L,L=Dr es:=⟨_,rfl⟩
   rw[HL.out,←hL] at hB hL16;clear HL;obtain⟨a0,a1,a2,a3,a4,a5,a6,a7,a8,a9,a10,a11,a12,a13,a14,a15,rfl⟩:=zKf L hL16;have HLQ:=zh hL;clear hL;have c0:=hB.cell 0 (by simp);have c1:=hB.cell 1 (by simp);have c2:=hB.cell 2 (by simp);have c3:=hB.cell 3 (by simp);have c4:=hB.cell 4 (by simp);have c5:=hB.cell 5 (by simp);have c6:=hB.cell 6 (by simp);have c7:=hB.cell 7 (by simp);have c8:=hB.cell 8 (by simp);have c9:=hB.cell 9 (by simp);have c10:=hB.cell 10 (by simp);have c11:=hB.cell 11 (by simp);have c12:=hB.cell 12 (by simp);have c13:=hB.cell 13 (by simp);have c14:=hB.cell 14 (by simp);have c15:=hB.cell 15 (by simp);have d0:=hA.cell 0 (by simp);have f0:=hA.frozen 0;have d1:=hA.cell 1 (by simp);have f1:=hA.frozen 1;have d2:=hA.cell 2 (by simp);have f2:=hA.frozen 2;have d3:=hA.cell 3 (by simp);have f3:=hA.frozen 3;have d4:=hA.cell 4 (by simp);have f4:=hA.frozen 4;have d5:=hA.cell 5 (by simp);have f5:=hA.frozen 5;have d6:=hA.cell 6 (by simp);have f6:=hA.frozen 6;have d7:=hA.cell 7 (by simp);have f7:=hA.frozen 7;have d8:=hA.cell 8 (by simp);have f8:=hA.frozen 8;have d9:=hA.cell 9 (by simp);have f9:=hA.frozen 9;have d10:=hA.cell 10 (by simp);have f10:=hA.frozen 10;have d11:=hA.cell 11 (by simp);have f11:=hA.frozen 11;have d12:=hA.cell 12 (by simp);have f12:=hA.frozen 12;have d13:=hA.cell 13 (by simp);have f13:=hA.frozen 13;have d14:=hA.cell 14 (by simp);have f14:=hA.frozen 14;have d15:=hA.cell 15 (by simp);have f15:=hA.frozen 15;simp only[List.getElem_cons_zero,List.getElem_cons_succ,List.getElem_replicate] at c0 d0 c1 d1 c2 d2 c3 d3 c4 d4 c5 d5 c6 d6 c7 d7 c8 d8 c9 d9 c10 d10 c11 d11 c12 d12 c13 d13 c14 d14 c15 d15;go_wp2;have hF:Arr _ w.heap.size 235 [a0,a1,a2,a3,a4,a5,a6,a7,a8,a9,a10,a11,a12,a13,a14,a15]:=(((((((((((((((hA.set 0 a0).set 1 a1).set 2 a2).set 3 a3).set 4 a4).set 5 a5).set 6 a6).set 7 a7).set 8 a8).set 9 a9).set 10 a10).set 11 a11).set 12 a12).set 13 a13).set 14 a14).set 15 a15;refine bodyPost_ret (v:=.agg (Aa [a0,a1,a2,a3,a4,a5,a6,a7,a8,a9,a10,a11,a12,a13,a14,a15]).toArray) (results_cell_row results177 _ _ w.heap.size 235 _ (0,0) _ rfl hF underlying235 rfl zC0) rfl ?_;refine⟨by rw[HLQ.out],?_⟩
   repeat(refine Below.setCell ?_ (by simp) _)
   exact hb
theorem Sz(L:List Int)(hl:L.length=16)(k:Nat)(hk:k<L.length)(W:World):(Instr.index 235 (.agg (Aa L).toArray) (.int .i64 (k:Int))).run prog W=.ok (.int .i64 L[k]) W:=by
 have h1:¬16≤k:=by omega
 simp[Instr.index,run_underlying underlying235,asIntOf,go_sem,h1,Aa,hk]
theorem zH3{es:List Ent}(h:(chk es).1=0)(k:Nat)(hk:k<es.length):1≤es[k].frm∧es[k].frm≤16:=by
 have:=(Hf h k hk).2.1;simpa only[Aq,decide_eq_true_eq] using this
theorem Xg(ea:Nat→Addr)(a:Option Addr)(n cap:Nat)(es:List Ent)(w:World)(hg:Bh w ea [7,10,4,2,3])(hn:es.length=n)(hr:Ac w a (Av es))(hm:n≤4611686018427387904)(h:(chk es).1=0) :
 Calls prog 152 #[.slice a n cap] w fun e w'=>e=.returned .nilIface∧Below w.heap.size w w':=by
 refine(Mc ea a n cap es w hg hn hr hm).mono ?_;rintro e w'⟨v,rfl,hv,hb⟩;rw[Lk h] at hv
 rcases hv with⟨_,rfl⟩|⟨_,h2,_⟩
 ·exact⟨by rw[Al],hb⟩
 ·exact absurd rfl h2
theorem zEf(ea:Nat→Addr)(a:Option Addr)(n cap:Nat)(es:List Ent)(w:World)(hg:Bh w ea [7,10,4,2,3])(hn:es.length=n)(hr:Ac w a (Av es))(hm:n≤4611686018427387904)(h:(chk es).1=0) :
 Calls prog 130 #[.slice a n cap] w fun e w'=>e=.returned (.tuple #[.int .i64 (Dr es).sum,.nilIface])∧Below w.heap.size w w':=by
 have KC:=zh (Xg ea a n cap es w hg hn hr hm h);have KH:=zh (fun(W:World) (hb:Below w.heap.size w W)=>zCs a n cap es W hn (hr.below hb) hm (zH3 h));have hsb:=Io h;have hl:=Gb es;generalize Dr es=L at *;clear hg hr hn h;go_enter func130,ntmps130;go_wp2_with fail;refine KC.out.mono ?_;rintro e1 w1⟨he1,hb1⟩;subst he1;go_wp2_with fail;refine(KH.out _ hb1).mono ?_;rintro e2 w2⟨he2,hb2⟩;subst he2;have hv2:=hb1.trans (hb2.mono hb1.size);clear hb1 hb2 KC KH;go_wp2;go_loop [5,15] (fun t i=>∃k:Nat,k≤16∧i=.int .i64 k∧t=.int .i64 (L.take k).sum) (fun _ i=>16-(intOf i).toNat)
 case atStart=>exact⟨0,by omega,rfl,rfl⟩
 case round=>
  obtain⟨k,hk,rfl,rfl⟩:=hrel
  by_cases hlt:k<16
  ·have hk1:k<L.length:=by omega
   have hs1:=hsb k;have hs2:=hsb (k+1);have HS:=zh (Y7 L k hk1);rw[HS.out] at hs2;have hix:=Sz L hl k hk1;generalize L[k]=v at *;go_wp2;go_round
   case rel=>exact⟨k+1,by omega,by go_num,by rw[HS.out]⟩
   case measure=>simp[intOf];omega
  ·obtain rfl:k=16:=by omega
   rw[List.take_of_length_le (by omega)];go_wp2;go_ret2;exact⟨rfl,hv2⟩
def Blk(W:World)(g:Nat)(l:List Int):Prop:=∃cur:Array Value,W.heap[g]?=some (.cells cur 3 (0,0))∧∀(i:Nat) (v:Value),(Aa l)[i]?=some v→cur[i]?=some v
theorem Blk.kept{W W':World}{g:Nat}{l:List Int}(h:Blk W g l)(hb:Below W.heap.size W W'):Blk W' g l:=by
 obtain⟨cur,h1,h2⟩:=h;exact⟨cur,(hb.block g (Array.getElem?_eq_some_iff.1 h1).1).trans h1,h2⟩
theorem Blk.lt{W:World}{g:Nat}{l:List Int}(h:Blk W g l):g<W.heap.size:=by
 obtain⟨cur,h1,_⟩:=h;exact(Array.getElem?_eq_some_iff.1 h1).1
theorem Blk.cell{W:World}{g:Nat}{l:List Int}(h:Blk W g l)(i:Nat)(hi:i<l.length):W.cell? ⟨g,i,none⟩=some (.int .i64 l[i]):=by
 obtain⟨cur,h1,h2⟩:=h;simpa[World.cell?,h1] using h2 i (.int .i64 l[i]) (by simp[Aa,hi])
theorem Blk.frozen{W:World}{g:Nat}{l:List Int}(h:Blk W g l)(i:Nat):W.frozen? ⟨g,i,none⟩=false:=by
 obtain⟨cur,h1,_⟩:=h;simp[World.frozen?,h1]
theorem Blk.row{W:World}{g:Nat}{l:List Int}(h:Blk W g l):Ac W (some ⟨g,0,none⟩) (Aa l):=by
 refine Or.inr ⟨g,0,rfl,h.lt,fun i v hv=>?_⟩;obtain⟨cur,h1,h2⟩:=h;simpa[World.cell?,h1] using h2 i v hv
theorem Blk.set{W:World}{g:Nat}{l:List Int}(h:Blk W g l)(i:Nat)(x:Int):Blk (W.setCell ⟨g,i,none⟩ (.int .i64 x)) g (l.set i x):=by
 obtain⟨cur,h1,h2⟩:=h;refine⟨cur.setIfInBounds i (.int .i64 x),by unfold World.setCell;simp[Array.getElem?_modify,h1],fun j v hv=>?_⟩;have hj:j<l.length:=by have:=(List.getElem?_eq_some_iff.1 hv).1;simpa[Aa] using this
 by_cases hij:i=j
 ·subst hij
  have hc:i<cur.size:=(Array.getElem?_eq_some_iff.1 (h2 i (.int .i64 l[i]) (by simp[Aa,hj]))).1;have:v=.int .i64 x:=by simpa[Aa,hj] using hv.symm
  rw[this];simp[hc]
 ·have hv':(Aa l)[j]?=some v:=by
   simp only[Aa,List.getElem?_map,List.getElem?_set_ne hij] at hv ⊢;exact hv
  simpa[Array.getElem?_setIfInBounds,hij] using h2 j v hv'
theorem Blk.owned{W:World}{base n:Nat}{v:Value}{l:List Int}(h:W.ownsRow base 3 1 v n (Aa l))(hl:l≠[]):∃g co,v=.slice (some ⟨g,0,none⟩) n co∧base≤g∧Blk W g l:=by
 rcases h.2 with⟨_,rfl⟩|⟨g,cap,cur,rfl,hg,hgb,_,_,_,ht⟩
 ·have:=h.1
  simp[Aa] at this;exact absurd this hl
 ·refine⟨g,cap,rfl,hg,cur,hgb,fun i v hv=>?_⟩
  rw[←ht,List.getElem?_take] at hv
  split at hv
  ·simpa using hv
  ·cases hv
theorem V2(ea:Nat→Addr)(a:Option Addr)(n cap:Nat)(es:List Ent)(w:World)(hg:Bh w ea [7,10,4,2,3])(hT:Bf w)(hn:es.length=n)(hr:Ac w a (Av es))(hm:n≤4611686018427387904)(h:(chk es).1=0) :
 Calls prog 103 #[.slice a n cap] w fun e w'=>e=.returned (.tuple #[.string ⟨(Fb es).toArray⟩,.nilIface])∧Below w.heap.size w w':=by
 have KC:=zh (Xg ea a n cap es w hg hn hr hm h);have HT:=zh (fun(W:World) (h:Below w.heap.size w W)=>hT.below h)
 by_cases h0:n=0
 ·subst h0
  have:es=[]:=List.eq_nil_of_length_eq_zero hn;subst this;clear hg hr hn h hT;go_enter func103,ntmps103;go_wp2_with fail;refine KC.out.mono ?_;rintro e1 w1⟨he1,hb1⟩;subst he1;go_wp2;go_ret2;exact⟨rfl,hb1⟩
 ·have hnz:((n:Int)==0)=false:=by simp;omega
  have hc200:=Vt h;have hne:es≠[]:=fun e=>h0 (by rw[←hn,e];rfl)
  have HF:Hid (Fb es=Lib.join (es.map Jk) [44]):=by unfold Hid;rw[Fb,if_neg hne]
  have hjl:(Lib.join (es.map Jk) [44]).length≤2600:=by rw[←HF.out];exact Mh h
  have HE:=zh (fun k (hk:k<es.length)=>Hf h k hk);have HJ:=zh hjl;have HN:=zh hn;clear hg h hT h0 hne hjl hn;obtain⟨i0,hi,hz0,hz1,hz2⟩:=info_parts Do;have hi':=zh hi;have hz0':=zh hz0;have hz1':=zh hz1;have hz2':=zh hz2;clear hi hz0 hz1 hz2;go_enter func103,ntmps103;go_wp2_with fail;refine KC.out.mono ?_;rintro e1 w1⟨he1,hb1⟩;subst he1;go_wp2;go_loopw [5,19] (fun v i wr=>∃k:Nat,k≤n∧i=.int .i64 k∧wr.ownsRow w.heap.size 9 1 v k (Ad ((es.take k).map Jk))∧Below w.heap.size w wr) (fun _ i _=>n-(intOf i).toNat)
  case atStart=>exact⟨0,Nat.zero_le _,rfl,World.ownsRow_nil _ _ _ _,hb1⟩
  case round=>
   obtain⟨k,hk,rfl,hown,hb⟩:=hrel
   by_cases hlt:k<n
   ·have hk1:k<es.length:=by have:=HN.out;omega
    obtain⟨b,off,rfl,hbl,c0,c1,c2,c3⟩:=(hr.below hb).ent k hk1;obtain⟨-,hnd,hvl,-⟩:=HE.out k hk1;simp only[Aq,Cr,decide_eq_true_eq] at hnd hvl;have HS:Hid (Ad ((es.take (k+1)).map Jk)=Ad ((es.take k).map Jk)++[.string ⟨(Jk es[k]).toArray⟩]):=by unfold Hid;rw[List.take_succ_eq_append_getElem hk1,List.map_append];simp only[Ad,List.map_append,List.map_cons,List.map_nil]
    have hi0:(0:Int)≤(k:Int):=by omega
    have hi1:(k:Int)<(n:Int):=by omega
    generalize es[k]=e at *;generalize Ad ((es.take k).map Jk)=xs at *
    cases hh:e.heard
    ·have hw:Jk e=Lib.itoa e.frm++[33]:=by rw[Jk,if_neg (by simp[hh])]
     rw[hw] at HS;rw[hh] at c2;have hbe:Below w.heap.size w (wr.alloc (.cells #[.int .i64 e.slot,.int .i64 e.frm,.bool false,.int .i64 e.value] 146)):=hb.alloc hb.size _;have KI:=zh (fun(W:World) (hW:Below w.heap.size w W)=>Df e.frm W (HT.out W hW) (by omega));have hil:=Lib.itoa_length_le e.frm (by omega) (by omega);have c1':=Ba (Lib.itoa e.frm) [33];generalize Lib.itoa e.frm=t1 at *;clear hh hw;go_wp2_with fail;refine(KI.out _ hbe).mono ?_;rintro e2 w2⟨he2,hb2⟩;subst he2;have hv2:=hbe.trans (hb2.mono hbe.size);have HO:=zh ((Cb (hown.alloc (.cells #[.int .i64 e.slot,.int .i64 e.frm,.bool false,.int .i64 e.value] 146)) hb2).alloc (.cells #[.string ⟨(t1++[33]).toArray⟩] 9));have HW:=zh (Ac.new_at w2 [.string ⟨(t1++[33]).toArray⟩] 9 _ rfl);have HV:=zh (hv2.alloc hv2.size (.cells #[.string ⟨(t1++[33]).toArray⟩] 9));have b2:=hb2.cell (p:=⟨wr.heap.size,2,none⟩) (by simp);simp at b2;clear hown hb2 hbe KI;go_wp2_with (at_builtin;refine Ag _ rfl (.tmp 37) (.tmp 39) 22 rfl w.heap.size 9 i0 _ 1 16 underlying22 hi'.out hz0'.out hz1'.out hz2'.out rfl (by decide) _ k xs rfl HO.out (some ⟨w2.heap.size,0,none⟩) 1 1 [.string ⟨(t1++[33]).toArray⟩] rfl rfl HW.out ?_ ?_ ?_ ?_ ?_;(simp[Value.oneCell']);(unfold maxLen;omega);(omega);(exact HV.out.size);intro v1 w5 ho1 hg1 hq hm1;clear hq hm1);go_roundw
     case rel=>exact⟨k+1,by omega,by go_num,by rw[HS.out];exact ho1,HV.out.grown hg1 HV.out.size (fun j e=>(HO.out.lt j e).1)⟩
     case measure=>simp[intOf];omega
    ·have hw:Jk e=Lib.itoa e.frm++([58]++Lib.itoa e.value):=by rw[Jk,if_pos hh]
     rw[hw] at HS;rw[hh] at c2;have hbe:Below w.heap.size w (wr.alloc (.cells #[.int .i64 e.slot,.int .i64 e.frm,.bool true,.int .i64 e.value] 146)):=hb.alloc hb.size _;have KI:=zh (fun(W:World) (hW:Below w.heap.size w W)=>Df e.frm W (HT.out W hW) (by omega));have KV:=zh (fun(W:World) (hW:Below w.heap.size w W)=>Df e.value W (HT.out W hW) (by omega));have hil:=Lib.itoa_length_le e.frm (by omega) (by omega);have hil2:=Lib.itoa_length_le e.value (by omega) (by omega);have c1':=Ba (Lib.itoa e.frm) [33];have c2':=Ba (Lib.itoa e.frm) [58];have c3':=Ba (Lib.itoa e.frm++[58]) (Lib.itoa e.value);rw[List.append_assoc] at c3';generalize Lib.itoa e.frm=t1 at *;generalize Lib.itoa e.value=t2 at *;clear hh hw;go_wp2_with fail;refine(KI.out _ hbe).mono ?_;rintro e2 w2⟨he2,hb2⟩;subst he2;have hv2:=hbe.trans (hb2.mono hbe.size);have HO:=zh (Cb (hown.alloc (.cells #[.int .i64 e.slot,.int .i64 e.frm,.bool true,.int .i64 e.value] 146)) hb2);have b1:w2.cell? ⟨wr.heap.size,1,none⟩=some (.int .i64 e.frm):=(hb2.cell (p:=⟨wr.heap.size,1,none⟩) (by simp)).trans (by simp);have b2:w2.cell? ⟨wr.heap.size,2,none⟩=some (.bool true):=(hb2.cell (p:=⟨wr.heap.size,2,none⟩) (by simp)).trans (by simp);have b2':w2.drew.cell? ⟨wr.heap.size,1,none⟩=some (.int .i64 e.frm):=b1;have b3:w2.drew.cell? ⟨wr.heap.size,3,none⟩=some (.int .i64 e.value):=(hb2.cell (p:=⟨wr.heap.size,3,none⟩) (by simp)).trans (by simp);have hz2:wr.heap.size<w2.heap.size:=by have:=hb2.size;simp at this;exact this
     have A1:=zh (KI.out w2.drew hv2.drew);have hv2:=hv2.drew;have HO:=zh HO.out.drew;clear hown hb2 hbe KI;go_wp2;have b1:=b2';clear b2';have g1:t1.length+1≤9223372036854775807:=by omega
     have g2:t1.length+1+t2.length≤9223372036854775807:=by omega
     have g3:t1.length≤9223372036854775806:=by omega
     have q1:∀W:World,(Op.stringOp .add ⟨t1.toArray⟩ ⟨#[58]⟩).run prog W=.ok (.string ⟨(t1++[58]).toArray⟩) W:=fun W=>by
      rw[run_string_add_sum _ _ _ (by simp[ByteArray.size];omega)];exact congrArg (fun z=>Result.ok (Value.string z) W) c2'
     have q2:∀W:World,(Op.stringOp .add ⟨(t1++[58]).toArray⟩ ⟨t2.toArray⟩).run prog W=.ok (.string ⟨(t1++58::t2).toArray⟩) W:=fun W=>by
      rw[run_string_add_sum _ _ _ (by simp[ByteArray.size];omega)];exact congrArg (fun z=>Result.ok (Value.string z) W) c3'
     go_region_held3 (fun w'=>w'.cell? ⟨wr.heap.size,1,none⟩=some (.int .i64 e.frm)∧w'.cell? ⟨wr.heap.size,3,none⟩=some (.int .i64 e.value)) (go_keep)
      (first
       | (go_at_call 46;(with_reducible refine A1.out.mono ?_);rintro e3 w3⟨rfl,hb3⟩;have hv3:=hv2.trans (hb3.mono hv2.size);have b1:=(hb3.cell (p:=⟨wr.heap.size,1,none⟩) hz2).trans b1;have b3:=(hb3.cell (p:=⟨wr.heap.size,3,none⟩) hz2).trans b3;have hz3:=Nat.lt_of_lt_of_le hz2 hb3.size;have A2:=zh (KV.out w3 hv3);have HO:=zh (Cb HO.out hb3);clear hb3)
       | (go_at_call 46;(with_reducible refine A2.out.mono ?_);rintro e4 w4⟨rfl,hb4⟩;have hv4:=hv3.trans (hb4.mono hv3.size);have b1:=(hb4.cell (p:=⟨wr.heap.size,1,none⟩) hz3).trans b1;have b3:=(hb4.cell (p:=⟨wr.heap.size,3,none⟩) hz3).trans b3;have HO:=zh (Cb HO.out hb4);clear hb4))
     all_goals
      have HO':=zh (HO.out.alloc (.cells #[.string ⟨(t1++58::t2).toArray⟩] 9));have HW:=zh (Ac.new_at w4 [.string ⟨(t1++58::t2).toArray⟩] 9 _ rfl);have HV:=zh (hv4.alloc hv4.size (.cells #[.string ⟨(t1++58::t2).toArray⟩] 9));clear b1 b2 b3 A1 A2 KV hv2 hv3;go_wp2_with (at_builtin;refine Ag _ rfl (.tmp 37) (.tmp 39) 22 rfl w.heap.size 9 i0 _ 1 16 underlying22 hi'.out hz0'.out hz1'.out hz2'.out rfl (by decide) _ k xs rfl HO'.out (some ⟨w4.heap.size,0,none⟩) 1 1 [.string ⟨(t1++58::t2).toArray⟩] rfl rfl HW.out ?_ ?_ ?_ ?_ ?_;(simp[Value.oneCell']);(unfold maxLen;omega);(omega);(exact HV.out.size);intro v1 w5 ho1 hg1 hq hm1;clear hq hm1);go_roundw
      case rel=>exact⟨k+1,by omega,by go_num,by rw[HS.out];exact ho1,HV.out.grown hg1 HV.out.size (fun j e=>(HO'.out.lt j e).1)⟩
      case measure=>simp[intOf];omega
   ·have HL:Hid (es.take k=es):=by unfold Hid;rw[List.take_of_length_le (by have:=HN.out;omega)]
    rw[HL.out] at hown;obtain rfl:k=n:=by omega
    obtain⟨ao,co,rfl⟩:=Aj hown;obtain⟨ra,_,na,_⟩:=Ac.owned hown;have hjl:=HJ.out;have hkn:=HN.out;have KJ:=zh (Ry ao k co (es.map Jk) [44] wr (by have:=HN.out;simp;omega) ra na (by omega) (by omega));clear hown hjl ra na hkn;go_wp2_with fail;refine KJ.out.mono ?_;rintro e2 w2⟨he2,hb2⟩;subst he2;go_wp2;go_ret2;exact⟨by rw[HF.out];rfl,hb.trans (hb2.mono hb.size)⟩
end Go.Proofs.YtppfkokfnoeopaaGreatDoor
