/- A part of a proof. -/
import Derived.Maps.Range
import Derived.Maps.RangeWalk
import Derived.Maps.OwnSet
import Derived.Deep.RegionHeld3
import Derived.Deep.AppendLies
import Derived.RegionTactic
import Derived.Test.YtppfkokfnoeopaaGreatDoorSMode
set_option maxRecDepth 400000
set_option maxHeartbeats 6400000
namespace Go.Proofs.YtppfkokfnoeopaaGreatDoor
open Go.RowKit Go.Proofs.Tryz
structure Fr(S:Nat→Prop)(w w':World):Prop where
 os:w'.os=w.os
 tape:w'.tape=w.tape
 output:w'.output=w.output
 size:w.heap.size≤w'.heap.size
 block:∀k,k<w.heap.size→¬S k→w'.heap[k]?=w.heap[k]?
theorem Fr.refl(S:Nat→Prop)(w:World):Fr S w w:=⟨rfl,rfl,rfl,Nat.le_refl _,fun _ _ _=>rfl⟩
theorem Fr.then{S S':Nat→Prop}{w a b:World}(h:Fr S w a)(k:Fr S' a b)(hs:∀i,S' i→S i∨w.heap.size≤i):Fr S w b:=
 ⟨k.os.trans h.os,k.tape.trans h.tape,k.output.trans h.output,Nat.le_trans h.size k.size,fun i hi hn=>
  (k.block i (Nat.lt_of_lt_of_le hi h.size) (fun hx=>(hs i hx).elim hn (fun e=>by omega))).trans (h.block i hi hn)⟩
theorem Fr.trans{S:Nat→Prop}{w a b:World}(h:Fr S w a)(k:Fr S a b):Fr S w b:=h.then k fun _=>Or.inl
theorem Fr.of{S:Nat→Prop}{w w':World}(h:Below w.heap.size w w'):Fr S w w':=⟨h.os,h.tape,h.output,h.size,fun k hk _=>h.block k hk⟩
theorem Fr.off{S:Nat→Prop}{w a b:World}(h:Fr S w a)(k:Below a.heap.size a b):Fr S w b:=h.trans (Fr.of k)
theorem Fr.at{w w':World}{B:Nat}(h:Below B w w'):Fr (fun k=>B≤k) w w':=⟨h.os,h.tape,h.output,h.size,fun k _ hn=>h.block k (by omega)⟩
theorem Fr.grown{S:Nat→Prop}{w w':World}{row:Option Nat}(h:w.grownBy w' row)(hr:∀k,row=some k→S k):Fr S w w':=
 ⟨h.os,h.tape,h.output,h.size,fun k hk hn=>h.block k hk (fun e=>hn (hr k e.symm))⟩
theorem Fr.mono{S S':Nat→Prop}{w w':World}(h:Fr S w w')(hs:∀k,S k→S' k):Fr S' w w':=⟨h.os,h.tape,h.output,h.size,fun k hk hn=>h.block k hk (fun e=>hn (hs k e))⟩
theorem Fr.below{S:Nat→Prop}{w w':World}(h:Fr S w w'){B:Nat}(hB:B≤w.heap.size)(hs:∀k,S k→B≤k):Below B w w':=
 ⟨h.os,h.tape,h.output,h.size,fun k hk=>h.block k (by omega) (fun e=>by have:=hs k e;omega)⟩
theorem Fr.base{S:Nat→Prop}{w0 w w':World}(h:Fr S w w')(h0:Below w0.heap.size w0 w)(hs:∀k,S k→w0.heap.size≤k):Below w0.heap.size w0 w':=
 h0.trans (h.below h0.size hs)
theorem Fr.setCell{S:Nat→Prop}{w a:World}(h:Fr S w a){p:Addr}(hp:S p.block∨w.heap.size≤p.block)(u:Value):Fr S w (a.setCell p u):=
 h.then (S':=fun k=>k=p.block) ⟨rfl,rfl,rfl,by simp[World.setCell],fun k _ hn=>Below.heap_setCell _ _ _ _ hn⟩ (fun i e=>by rw[e];exact hp)
theorem Fr.alloc{S:Nat→Prop}{w a:World}(h:Fr S w a)(o:Obj):Fr S w (a.alloc o):=h.off (zb.alloc zl o)
theorem Fr.drewN{S:Nat→Prop}{w a:World}(h:Fr S w a)(n:Nat):Fr S w (a.drewN n):=⟨h.os,h.tape,h.output,h.size,h.block⟩
theorem Ey{w:World}{base:Nat}{e:TypeId}{size:Nat}{v:Value}{n:Nat}{xs:List Value}(h:w.ownsRow base e size v n xs):∀k,v.ownBlock=some k→∃cur,w.heap[k]?=some (.cells cur e (0,0)):=by
 intro k hk
 rcases h.2 with⟨rfl,_⟩|⟨g,cap,cur,rfl,_,hg,_⟩
 ·simp[Value.ownBlock] at hk
 ·simp[Value.ownBlock] at hk;subst hk;exact⟨cur,hg⟩
theorem Dh{S:Nat→Prop}{w w':World}{base:Nat}{e:TypeId}{size:Nat}{v:Value}{n:Nat}{xs:List Value}(h:w.ownsRow base e size v n xs)(hf:Fr S w w')(hs:∀k cur,w.heap[k]?=some (.cells cur e (0,0))→¬S k):w'.ownsRow base e size v n xs:=by
 refine⟨h.1,?_⟩
 rcases h.2 with h|⟨g,cap,cur,h1,h2,h3,h4⟩
 ·exact Or.inl h
 ·exact Or.inr ⟨g,cap,cur,h1,h2,(hf.block g (Array.getElem?_eq_some_iff.1 h3).1 (hs g cur h3)).trans h3,h4⟩
theorem Cd{w:World}{base:Nat}{e:TypeId}{size:Nat}{a:Option Addr}{n n' cap:Nat}{xs:List Value}(h:w.ownsRow base e size (.slice a n' cap) n xs):Ac w a xs:=(Ac.owned h).1
end Go.Proofs.YtppfkokfnoeopaaGreatDoor
namespace Go.Proofs.YtppfkokfnoeopaaGreatDoor
open Go.ChangeShapes Go.WideShapes Go.MapKept Go.Maps Go.Proofs.Tryz
open Go.ChangeMaps (notKey putKey mem_insert_iff setBlock map_eraseIdx set_perm modify_eq_set heap_setBlock_same heap_setBlock_other)
open Go.WideElems (Fit rd rg pl rd_key rd_val rg_of rd_mk other_key)
section
variable {H:Type} {P:Program} {k:TypeId} {R:Value→Option (DataW H×List MemPlace)} {w:World} {b r n:Nat} {D:DataW H} {left:Lit→Bool} {cnt:Nat}
theorem zAp{t e:TypeId}(h:w.ranges P k R b r n D left cnt)(K:Keyed P k)(ht:P.underlying t=some (.map k e)){key val:Value}{kl:Lit}{y:DataW H×List MemPlace}
 (hkey:keyOf P k key=some kl) (hv:R val=some y) (hhas:Maps.has D kl=true) :
 ∃w',(Instr.mapUpdate t (.map (some b)) key val).run P w=.ok () w'∧w'.ranges P k R b r n (D.put kl y.1) left cnt∧w.grownBy w' (some b)∧w'.heap.size=w.heap.size:=by
 have hne:=h.ne;obtain⟨es,clock,since,seen,c0,hb,F,hs,rfl,hr,hold,hcnt,hl1,hl2,hsc,hsk⟩:=h
 rcases K.find w hkey es.toList F.keys with⟨h1,h2⟩|⟨j,e0,h1,h2,h3⟩
 ·exfalso
  obtain⟨p,hp,hpk⟩:=List.any_eq_true.1 hhas;obtain⟨x,hx,rfl⟩:=List.mem_map.1 (mem_sorted.1 hp);obtain⟨y0,hy0⟩:=F.reads x hx;have hk0:=rd_key hy0;have e1:=WideAt.sameKey_eq hpk;rw[rg_of hy0] at e1;rw[e1] at hk0;exact h2 x hx (K.inj hk0 hkey)
 ·have hj:es[j]?=some e0:=by simpa using h2
  have hjl:j<es.toList.length:=(List.getElem?_eq_some_iff.1 h2).1;have hm0:e0∈es.toList:=List.mem_of_getElem? h2;have hkeyf:∀e',es[j]?=some e'→({ e' with key:=key,val:=val }:MapEntry).key=e'.key:=fun e' he'=>by rw[hj] at he';cases he';exact h3.symm
  have hlist:(es.modify j (fun e'=>{ e' with key:=key,val:=val })).toList=es.toList.set j { e0 with key:=key,val:=val }:=by rw[Array.toList_modify,modify_eq_set _ _ _ _ h2]
  have hborn:(es.toList.set j { e0 with key:=key,val:=val }).map MapEntry.born=es.toList.map MapEntry.born:=by
   rw[List.map_set];apply List.ext_getElem?;intro i;rw[List.getElem?_set]
   split
   ·rename_i hji
    subst hji;rw[if_pos (by simpa using hjl),List.getElem?_map,h2];rfl
   ·rfl
  have who:∀x∈es.toList.set j { e0 with key:=key,val:=val },x = { e0 with key:=key,val:=val }∨(x∈es.toList∧x.key≠key):=by
   intro x hx;obtain⟨i,hi,ex⟩:=List.getElem_of_mem hx;rw[List.getElem_set] at ex
   split at ex
   ·exact Or.inl ex.symm
   ·rename_i hne2
    have hi':i<es.toList.length:=by simpa using hi
    refine Or.inr ⟨ex▸List.getElem_mem hi',?_⟩;rw[←h3];exact other_key F h2 (by rw[List.getElem?_eq_getElem hi',ex]) (fun e1=>hne2 e1.symm)
  have hnew:rg P k R { e0 with key:=key,val:=val }=(kl,y.1):=rg_of (rd_mk hkey hv)
  have hold0:(rg P k R e0).1=kl:=by
   obtain⟨y0,hy0⟩:=F.reads e0 hm0;have m0:=rd_key hy0;rw[h3,hkey] at m0;rw[rg_of hy0];exact(Option.some.inj m0).symm
  have hrun:(Instr.mapUpdate t (.map (some b)) key val).run P w=.ok () (setBlock w b (.map (es.modify j (fun e'=>{ e' with key:=key,val:=val })) clock)):=by
   simp[Instr.mapUpdate,run_underlying ht,MapKept.run_getObj_map hb,K.check w false hkey,h1,hj,h3,K.stays w hkey,MapKept.run_setObj_map _ hb,Result.andThen,setBlock]
  have F':Fit P k R (es.modify j (fun e'=>{ e' with key:=key,val:=val })) clock:=⟨by simpa using F.size,stamped_modify F.stamped _ _ (fun _ _=>rfl) (fun e' _ he'=>hkeyf e' he'),fun x hx=>by
   rw[hlist] at hx
   rcases who x hx with rfl|⟨hx',_⟩
   ·exact⟨_,rd_mk hkey hv⟩
   ·exact F.reads x hx'⟩
  have hput:((es.modify j (fun e'=>{ e' with key:=key,val:=val })).toList.map (rg P k R)).foldr DataW.insert []=putKey kl y.1 ((es.toList.map (rg P k R)).foldr DataW.insert []):=by
   refine sorted_put K.one ⟨key,hkey⟩ (fit_keys F) (fit_apart K F) ?_;rw[filter_one K F hkey h2 h3,hlist,List.map_set,hnew];exact set_perm _ _ (by simpa using hjl) _
  have hlen:∀a:Array MapEntry,(leftOf a seen).size=((a.toList.map MapEntry.born).filter fun q=>!seen.contains q).length:=fun a=>by
   unfold leftOf;rw[←Array.length_toList,Array.toList_filter,List.filter_map,List.length_map]
   rfl
  refine⟨_,hrun,⟨_,clock,since,seen,c0,heap_setBlock_same hb _,F',by simpa using hs,by rw[DataW.put_eq,hput],(heap_setBlock_other hb _ hne).trans hr,fun x hx=>?_,?_,fun x hx=>?_,fun kl' hkl'=>?_,hsc,hsk⟩,⟨rfl,rfl,rfl,by simp[setBlock],fun i _ hi=>heap_setBlock_other hb _ (fun e1=>hi (by rw[e1]))⟩,by simp[setBlock]⟩
  ·rw[hlist] at hx
   rcases who x hx with rfl|⟨hx',_⟩
   ·exact hold e0 hm0
   ·exact hold x hx'
  ·rw[hlen,hlist,hborn,←hlen];exact hcnt
  ·rw[hlist] at hx
   rcases who x hx with rfl|⟨hx',_⟩
   ·rw[hnew,←hold0];exact hl1 e0 hm0
   ·exact hl1 x hx'
  ·obtain⟨x,hx,hxk⟩:=hl2 kl' hkl'
   by_cases hk0:kl'=kl
   ·refine⟨{ e0 with key:=key,val:=val },?_,by rw[hnew,hk0]⟩
    rw[hlist];exact List.mem_iff_getElem.2 ⟨j,by simpa using hjl,by simp⟩
   ·refine⟨x,?_,hxk⟩
    rw[hlist];obtain⟨i,hi⟩:=List.getElem?_of_mem hx
    have hij:j≠i:=by
     rintro rfl;rw[h2] at hi;obtain rfl:=Option.some.inj hi;exact hk0 (hxk.symm.trans hold0)
    exact List.mem_of_getElem? (i:=i) (by rw[List.getElem?_set_ne hij];exact hi)
end
end Go.Proofs.YtppfkokfnoeopaaGreatDoor
namespace Go.Proofs.YtppfkokfnoeopaaGreatDoor
open Go.RowKit Go.Maps Go.Proofs.Tryz
structure Nod where
 st:Int
 val:Int
 m:Int
 d:Int
 s:Int
 row:Option Nat
 n:Nat
 c:Nat
def Nod.sl(x:Nod):Value:=.slice (x.row.map fun g=>⟨g,0,none⟩) x.n x.c
def Nod.v(x:Nod):Value:=.agg #[.int .i64 x.st,.int .i64 x.val,.int .i64 x.m,.int .i64 x.d,.int .i64 x.s,x.sl]
def Nod.nums(x:Nod):List Int:=[x.st,x.val,x.m,x.d,x.s,match x.row with|none=>-1|some g=>g,x.n,x.c]
def Nod.e(x:Nod):DataW Unit:=.agg (x.nums.map fun i=>.lit (.int .i64 i))
theorem Nod.e_inj{x y:Nod}(h:x.e=y.e):x=y:=by
 obtain⟨a1,a2,a3,a4,a5,r,n,c⟩:=x;obtain⟨b1,b2,b3,b4,b5,q,k,j⟩:=y;simp only[Nod.e,Nod.nums,List.map_cons,List.map_nil,DataW.agg.injEq,List.cons.injEq,DataW.lit.injEq,Lit.int.injEq,true_and,and_true] at h;obtain⟨rfl,rfl,rfl,rfl,rfl,hr,hn,hc⟩:=h;obtain rfl:n=k:=by omega
 obtain rfl:c=j:=by omega
 cases r<;>cases q
 ·rfl
 ·simp at hr
 ·simp at hr
 ·rename_i g q
  have e:g=q:=by first|exact hr|omega|(simp at hr;omega)|(simp at hr;exact hr)
  rw[e]
noncomputable def V9(v:Value):Option (DataW Unit×List MemPlace):=by
 classical exact if h:∃x:Nod,v=x.v then some (h.choose.e,[]) else none
theorem Nod.v_inj{x y:Nod}(h:x.v=y.v):x=y:=by
 obtain⟨a1,a2,a3,a4,a5,r,n,c⟩:=x;obtain⟨b1,b2,b3,b4,b5,q,k,j⟩:=y;simp only[Nod.v,Nod.sl,Value.agg.injEq] at h;have h':=congrArg Array.toList h;simp only[List.cons.injEq,Value.int.injEq,true_and,and_true,Value.slice.injEq] at h';obtain⟨rfl,rfl,rfl,rfl,rfl,hr,rfl,rfl⟩:=h'
 cases r<;>cases q<;>simp_all
theorem Se(x:Nod):V9 x.v=some (x.e,[]):=by
 unfold V9;have h:∃y:Nod,x.v=y.v:=⟨x,rfl⟩
 rw[dif_pos h];have e:h.choose=x:=(Nod.v_inj h.choose_spec).symm;rw[e]
theorem Sd{v:Value}{y:DataW Unit×List MemPlace}(h:V9 v=some y):∃x:Nod,v=x.v∧y=(x.e,[]):=by
 unfold V9 at h
 split at h
 ·rename_i hx
  exact⟨hx.choose,hx.choose_spec,(Option.some.inj h).symm⟩
 ·cases h
def W6:Nod:=⟨0,0,0,0,0,none,0,0⟩
theorem Wd{H:Type}{P:Program}{k:TypeId}{R:Value→Option (DataW H×List MemPlace)}{w:World}{b n:Nat}{D:DataW H}(h:w.ownsMap P k R b n D):w.ownsMap P k R b (Maps.size D) D∧Maps.size D≤n:=by
 obtain⟨es,clock,hb,F,hs,rfl⟩:=h
 have e:Maps.size (DataW.map ((es.toList.map (Go.WideElems.rg P k R)).foldr DataW.insert []))=es.size:=by
  rw[size_eq,length_sorted];simp
 exact⟨⟨es,clock,hb,F,by rw[e];exact Nat.le_refl _,rfl⟩,by rw[e];exact hs⟩
theorem Kw{H:Type}{P:Program}{k:TypeId}{R:Value→Option (DataW H×List MemPlace)}{w:World}{b n:Nat}{D:DataW H}(h:w.ownsMap P k R b n D)(K:Keyed P k):Tidy D:=by
 obtain⟨es,e,h1,_⟩:=h.entries K;exact⟨es,e,h1⟩
section
variable {P:Program} {k t e:TypeId}
def D1(P:Program)(k:TypeId)(w:World)(mb:Nat)(f:Int→Option Nod)(q:Nat):Prop:=
 ∃D:DataW Unit,w.ownsMap P k V9 mb q D∧Maps.size D=q∧(∀i x,f i=some x→Maps.has D (.int .i64 i)=true∧∀z,D.atKey (.int .i64 i) z=x.e)∧(∀i,f i=none→Maps.has D (.int .i64 i)=false)
theorem D1.lt{w:World}{mb q:Nat}{f:Int→Option Nod}(h:D1 P k w mb f q):mb<w.heap.size:=by
 obtain⟨D,h,_⟩:=h;exact h.lt
theorem D1.kept{w w':World}{mb q:Nat}{f:Int→Option Nod}{row:Option Nat}(h:D1 P k w mb f q)(hg:w.grownBy w' row)(hne:some mb≠row):D1 P k w' mb f q:=by
 obtain⟨D,h,h1⟩:=h;exact⟨D,h.kept hg hne,h1⟩
theorem zAe(P:Program)(k:TypeId)(w:World):D1 P k (w.alloc (.map #[] 0)) w.heap.size (fun _=>none) 0:=
 ⟨.map [],World.ownsMap_made w P k V9,rfl,fun i x h=>by simp at h,fun i _=>rfl⟩
theorem Sf{w:World}{mb q:Nat}{f:Int→Option Nod}(h:D1 P k w mb f q)(hk:P.underlying k=some (.int .i64))(ht:P.underlying t=some (.map k e))(hz:(zeroValue e).run P w=.ok W6.v w){i:Int}(hi:(Lit.int .i64 i).wf=true) :
 (Instr.lookup t (.map (some mb)) (.int .i64 i) false).run P w=.ok ((f i).getD W6).v w:=by
 obtain⟨D,h,_,h1,h2⟩:=h;obtain⟨v,ps,hrun,hv⟩:=h.lookup (int_keyed hk) ht hz (Se W6) (keyOf_int_mk hk hi);obtain⟨x,rfl,hx⟩:=Sd hv;rw[hrun]
 congr 2
 have hx:=congrArg Prod.fst hx;dsimp only at hx
 cases hf:f i with
 | some y=>
  rw[(h1 i y hf).2] at hx;rw[Nod.e_inj hx];rfl
 | none=>
  rw[atKey_of_not_has (h2 i hf)] at hx;rw[←Nod.e_inj hx];rfl
theorem Jp{w:World}{mb q:Nat}{f:Int→Option Nod}(h:D1 P k w mb f q)(hk:P.underlying k=some (.int .i64))(ht:P.underlying t=some (.map k e))(hz:(zeroValue e).run P w=.ok W6.v w){i:Int}(hi:(Lit.int .i64 i).wf=true) :
 (Instr.lookup t (.map (some mb)) (.int .i64 i) true).run P w=.ok (.tuple #[((f i).getD W6).v,.bool (f i).isSome]) w:=by
 obtain⟨D,h,_,h1,h2⟩:=h;obtain⟨v,ps,hrun,hv⟩:=h.look_ok (int_keyed hk) ht hz (Se W6) (keyOf_int_mk hk hi);obtain⟨x,rfl,hx⟩:=Sd hv;rw[hrun];have hx:=congrArg Prod.fst hx;dsimp only at hx
 cases hf:f i with
 | some y=>
  rw[(h1 i y hf).2] at hx;rw[Nod.e_inj hx,(h1 i y hf).1];rfl
 | none=>
  rw[atKey_of_not_has (h2 i hf)] at hx;rw[←Nod.e_inj hx,h2 i hf];rfl
theorem L0{f:Int→Option Nod}{D:DataW Unit}(hI:IsMap D)(h1:∀i x,f i=some x→Maps.has D (.int .i64 i)=true∧∀z,D.atKey (.int .i64 i) z=x.e)(h2:∀i,f i=none→Maps.has D (.int .i64 i)=false)(i:Int)(x:Nod) :
 (∀j y,(fun j=>if j=i then some x else f j) j=some y→Maps.has (D.put (.int .i64 i) x.e) (.int .i64 j)=true∧∀z,(D.put (.int .i64 i) x.e).atKey (.int .i64 j) z=y.e)∧(∀j,(fun j=>if j=i then some x else f j) j=none→Maps.has (D.put (.int .i64 i) x.e) (.int .i64 j)=false):=by
 have hkl:WideAt.IsKeyLit (.int .i64 i):=trivial;refine⟨fun j y hy=>?_,fun j hj=>?_⟩
 ·dsimp only at hy
  split at hy
  ·rename_i hji
   subst hji;obtain rfl:=Option.some.inj hy;exact⟨has_put_same hI hkl _,fun z=>atKey_put_same hI hkl _ _⟩
  ·rename_i hji
   have hne:(Lit.int .i64 j)≠.int .i64 i:=fun e=>hji (by injection e)
   exact⟨by rw[has_put_other hne];exact(h1 j y hy).1,fun z=>by rw[atKey_put_other hne];exact(h1 j y hy).2 z⟩
 ·dsimp only at hj
  split at hj
  ·cases hj
  ·rename_i hji
   have hne:(Lit.int .i64 j)≠.int .i64 i:=fun e=>hji (by injection e)
   rw[has_put_other hne];exact h2 j hj
theorem zDb{w:World}{mb q:Nat}{f:Int→Option Nod}(h:D1 P k w mb f q)(hk:P.underlying k=some (.int .i64))(ht:P.underlying t=some (.map k e))(hq:q<1000000){i:Int}(hi:(Lit.int .i64 i).wf=true)(x:Nod) :
 ∃w',(Instr.mapUpdate t (.map (some mb)) (.int .i64 i) x.v).run P w=.ok () w'∧D1 P k w' mb (fun j=>if j=i then some x else f j) (if (f i).isSome then q else q+1)∧w.grownBy w' (some mb):=by
 obtain⟨D,h,hs,h1,h2⟩:=h;have hT:=Kw h (int_keyed hk);obtain⟨w',hrun,ho,hg⟩:=h.update (int_keyed hk) ht (by unfold maxLen;omega) (keyOf_int_mk hk hi) (Se x);obtain⟨p1,p2⟩:=L0 hT.isMap h1 h2 i x;have hsz:=size_put (k:=.int .i64 i) hT x.e
 have hsz2:Maps.size (D.put (.int .i64 i) x.e)=if (f i).isSome then q else q+1:=by
  rw[hsz,hs]
  cases hf:f i with
  | some y=>rw[(h1 i y hf).1];rfl
  | none=>rw[h2 i hf];rfl
 refine⟨w',hrun,⟨_,?_,hsz2,p1,p2⟩,hg⟩;have:=(Wd ho).1;rw[hsz2] at this;exact this
theorem Yv(i j:Int):(Lit.int .i64 j).sameKey (.int .i64 i)=(j==i):=by
 by_cases h:j=i
 ·subst h
  rw[WideAt.sameKey_self (show WideAt.IsKeyLit (.int .i64 j) from trivial)];simp
 ·rw[sameKey_ne (fun e=>h (by injection e))]
  simp[h]
def Cm(P:Program)(k:TypeId)(w:World)(mb r:Nat)(f:Int→Option Nod)(q:Nat)(left:Int→Bool)(cnt:Nat):Prop:=
 ∃(D:DataW Unit) (L:Lit→Bool),w.ranges P k V9 mb r q D L cnt∧Maps.size D=q∧(∀i x,f i=some x→Maps.has D (.int .i64 i)=true∧∀z,D.atKey (.int .i64 i) z=x.e)∧(∀i,f i=none→Maps.has D (.int .i64 i)=false)∧∀i,left i=L (.int .i64 i)
theorem Cm.at{w:World}{mb r q cnt:Nat}{f:Int→Option Nod}{left:Int→Bool}(h:Cm P k w mb r f q left cnt):D1 P k w mb f q:=by
 obtain⟨D,L,h,h1,h2,h3,_⟩:=h;exact⟨D,h.owns,h1,h2,h3⟩
theorem Cm.lt{w:World}{mb r q cnt:Nat}{f:Int→Option Nod}{left:Int→Bool}(h:Cm P k w mb r f q left cnt):r<w.heap.size:=by
 obtain⟨D,L,h,_⟩:=h;exact h.lt
theorem Cm.left_eq{w:World}{mb r q cnt:Nat}{f:Int→Option Nod}{left:Int→Bool}(h:Cm P k w mb r f q left cnt):w.rangeLeft mb r=cnt:=by
 obtain⟨D,L,h,_⟩:=h;exact h.left_eq
theorem Cm.kept{w w':World}{mb r q cnt:Nat}{f:Int→Option Nod}{left:Int→Bool}{row:Option Nat}(h:Cm P k w mb r f q left cnt)(hg:w.grownBy w' row)(h1:some mb≠row)(h2:some r≠row):Cm P k w' mb r f q left cnt:=by
 obtain⟨D,L,h,hh⟩:=h;exact⟨D,L,h.kept hg h1 h2,hh⟩
theorem Cm.put{w:World}{mb r q cnt:Nat}{f:Int→Option Nod}{left:Int→Bool}(h:Cm P k w mb r f q left cnt)(hk:P.underlying k=some (.int .i64))(ht:P.underlying t=some (.map k e)){i:Int}(hi:(Lit.int .i64 i).wf=true)(hf:(f i).isSome=true)(x:Nod) :
 ∃w',(Instr.mapUpdate t (.map (some mb)) (.int .i64 i) x.v).run P w=.ok () w'∧Cm P k w' mb r (fun j=>if j=i then some x else f j) q left cnt∧w.grownBy w' (some mb)∧w'.heap.size=w.heap.size:=by
 obtain⟨D,L,h,hs,h1,h2,hL⟩:=h;obtain⟨y,hy⟩:=Option.isSome_iff_exists.1 hf;have hT:=Kw h.owns (int_keyed hk);obtain⟨w',hrun,hr,hg,hz⟩:=zAp h (int_keyed hk) ht (keyOf_int_mk hk hi) (Se x) (h1 i y hy).1;obtain⟨p1,p2⟩:=L0 hT.isMap h1 h2 i x;refine⟨w',hrun,⟨_,L,hr,?_,p1,p2,hL⟩,hg,hz⟩;rw[size_put (k:=.int .i64 i) hT x.e,(h1 i y hy).1];exact hs
theorem Np{w:World}{ops:Array Oper}{rest:List Oper}{o:Oper}{a:Act}{Q:Exit→Act→World→Prop}(hg:o.guard=none)(m:Operand)(hop:o.op=Op.range t m)(hk:P.underlying k=some (.int .i64))(ht:P.underlying t=some (.map k e)){mb q:Nat}{f:Int→Option Nod}
 (hm:a.eval m=.map (some mb)) (h:D1 P k w mb f q)
 (hK:∀w',Cm P k w' mb w.heap.size f q (fun i=>(f i).isSome) q→w.grownBy w' none→w'.heap.size=w.heap.size+1→wpList P ops Q rest (a.put o.dst (.pointer (some ⟨w.heap.size,0,none⟩))) w') :
 wpList P ops Q (o::rest) a w:=by
 obtain⟨D,h,hs,h1,h2⟩:=h;refine wpList_range_own w hg m t hop k e (int_keyed hk) ht V9 mb q D hm h fun w' hr hg1 hz=>hK w' ⟨D,_,by rw[hs] at hr;exact hr,hs,h1,h2,fun i=>?_⟩ hg1 hz
 cases hf:f i with
 | some x=>rw[(h1 i x hf).1];dsimp only;rw[hf];rfl
 | none=>rw[h2 i hf];dsimp only;rw[hf];rfl
theorem O1{w:World}{ops:Array Oper}{rest:List Oper}{o:Oper}{a:Act}{Q:Exit→Act→World→Prop}(hg:o.guard=none)(it:Operand)(hop:o.op=Op.next it false)(hk:P.underlying k=some (.int .i64)){mb r q cnt:Nat}{f:Int→Option Nod}{left:Int→Bool}
 (hit:a.eval it=.pointer (some ⟨r,0,none⟩)) (h:Cm P k w mb r f q left cnt)
 (hDone:cnt=0→(∀i,left i=false)→wpList P ops Q rest (a.put o.dst (.tuple #[.bool false])) w)
 (hMore:∀(i:Int) (x:Nod) (w':World) (cnt':Nat),(Lit.int .i64 i).wf=true→left i=true→f i=some x→Cm P k w' mb r f q (fun j=>left j&&!(j==i)) cnt'→cnt'<cnt→w.grownBy w' (some r)→w'.heap.size=w.heap.size→
  (Instr.entry (.pointer (some ⟨r,0,none⟩))).run P w'=.ok (.tuple #[.int .i64 i,x.v]) w'→wpList P ops Q rest (a.put o.dst (.tuple #[.bool true,.int .i64 i,x.v])) w') :
 wpList P ops Q (o::rest) a w:=by
 obtain⟨D,L,hr,hs,h1,h2,hL⟩:=h
 refine wpList_next_ranges w hg it hop k (int_keyed hk) V9 (Value.int .i64) Nod.v (fun key kl hkey=>by obtain⟨x,rfl,_⟩:=Maps.keyOf_int_inv hk hkey;exact⟨x,rfl⟩) (fun v y hv=>by obtain⟨x,rfl,_⟩:=Sd hv;exact⟨x,rfl⟩)
  mb r q D L cnt hit hr (fun hc hl=>hDone hc (fun i=>by rw[hL];exact hl _)) (fun i x kl y w' cnt' hkey hlk hv hat hrg hlt hgr hsz hen=>?_)
 obtain⟨i',ei,rfl,hwi⟩:=Maps.keyOf_int_inv hk hkey;obtain rfl:i=i':=by injection ei
 rw[Se] at hv;obtain rfl:=Option.some.inj hv;have hhas:=has_true_of_atKey hat
 have hf:f i=some x:=by
  cases hf:f i with
  | none=>rw[h2 i hf] at hhas;cases hhas
  | some z=>
   have h3:=(h1 i z hf).2 (.map []);rw[hat] at h3;rw[Nod.e_inj h3]
 refine hMore i x w' cnt' hwi (by rw[hL];exact hlk) hf ⟨D,_,hrg,hs,h1,h2,fun j=>?_⟩ hlt hgr hsz hen;dsimp only;rw[hL,Yv]
end
end Go.Proofs.YtppfkokfnoeopaaGreatDoor
namespace Go.Proofs.YtppfkokfnoeopaaGreatDoor
open Go.RowKit Go.Proofs.Tryz
structure NP where
 st:Int
 val:Int
 m:Int
 d:Int
 s:Int
 h:List Ent
structure CP where
 plan:List Int
 time:Nat
 now:Int
 asked:Int
 f:Int→Option NP
def CP.set(c:CP)(n v:Int):CP×Nat:=match c.f n with
 | none=>(c,4)
 | some x=>if Cr v then(⟨c.plan,c.time,c.now,c.asked,fun i=>if i=n then some ⟨x.st,v,x.m,x.d,x.s,x.h⟩ else c.f i⟩,0) else(c,2)
def CP.turn(c:CP)(n tt:Int):CP×Nat:=match c.f n with
 | none=>(c,4)
 | some x=>if (x.st=0↔tt=0) then(c,6) else(⟨c.plan,c.time,c.now,c.asked,fun i=>if i=n then some ⟨tt,x.val,0,0,0,[]⟩ else c.f i⟩,0)
def CP.ask(c:CP)(tt:Int):CP×Nat:=if tt<0∨3<tt then(c,2) else if 0≤c.asked then(c,6) else(⟨c.plan,c.time,c.now,tt,c.f⟩,0)
def CP.new(l:List Int):CP:=⟨l,0,0,-1,fun i=>if i∈l then some ⟨2,0,(A6 l:Nat),0,0,[]⟩ else none⟩
def NP.endR(stays:List Ent→Bool)(now:Int)(x:NP):NP:=if x.st=2 then(if stays x.h then⟨2,x.val,x.m,now,x.s,x.h⟩ else⟨0,x.val,0,0,0,[]⟩) else x
def CP.turned(c:CP):Int:=if 0≤c.asked then c.asked else c.now
end Go.Proofs.YtppfkokfnoeopaaGreatDoor
namespace Go.Proofs.YtppfkokfnoeopaaGreatDoor
open Go.RowKit Go.Maps Go.Proofs.Tryz
def Nr(w:World):Option Nod→Option NP→Prop
 | none,none=>True
 | some x,some y=>x.st=y.st∧x.val=y.val∧x.m=y.m∧x.d=y.d∧x.s=y.s∧x.n=y.h.length∧w.ownsRow 0 146 4 x.sl x.n (Av y.h)
 | _,_=>False
theorem Nr.kept{S:Nat→Prop}{w w':World}{x:Option Nod}{y:Option NP}(h:Nr w x y)(hf:Fr S w w')(hs:∀k cur,w.heap[k]?=some (.cells cur 146 (0,0))→¬S k):Nr w' x y:=by
 cases x<;>cases y<;>simp only[Nr] at h ⊢
 obtain⟨h1,h2,h3,h4,h5,h6,h7⟩:=h;exact⟨h1,h2,h3,h4,h5,h6,Dh h7 hf hs⟩
theorem Nr.is{w:World}{x:Option Nod}{y:Option NP}(h:Nr w x y):x.isSome=y.isSome:=by
 cases x<;>cases y<;>simp_all [Nr]
def NP0:NP:=⟨0,0,0,0,0,[]⟩
def NP.v(x:NP)(sl:Value):Value:=.agg #[.int .i64 x.st,.int .i64 x.val,.int .i64 x.m,.int .i64 x.d,.int .i64 x.s,sl]
def Cx(w:World)(sl:Value)(h:List Ent):Prop:=w.ownsRow 0 146 4 sl h.length (Av h)
theorem Cx.nil(w:World):Cx w (.slice none 0 0) []:=World.ownsRow_nil _ _ _ _
theorem Cx.fr{S:Nat→Prop}{w w':World}{sl:Value}{h:List Ent}(hr:Cx w sl h)(hf:Fr S w w')(hs:∀k cur,w.heap[k]?=some (.cells cur 146 (0,0))→¬S k):Cx w' sl h:=Dh hr hf hs
theorem Cx.below{w w':World}{sl:Value}{h:List Ent}(hr:Cx w sl h)(hb:Below w.heap.size w w'):Cx w' sl h:=hr.fr (S:=fun _=>False) (Fr.of hb) (fun _ _ _ h=>h)
theorem Cx.shape{w:World}{sl:Value}{h:List Ent}(hr:Cx w sl h):∃a cap,sl=.slice a h.length cap∧Ac w a (Av h)∧h.length≤cap∧cap≤maxLen:=by
 obtain⟨a,cap,rfl⟩:=Aj hr;obtain⟨h1,_,h2,h3⟩:=Ac.owned hr;exact⟨a,cap,rfl,h1,h2,h3⟩
theorem Cx.nod{w:World}{sl:Value}{x:NP}(hr:Cx w sl x.h):∃y:Nod,y.v=x.v sl∧Nr w (some y) (some x):=by
 rcases hr.2 with⟨rfl,hn⟩|⟨g,cap,cur,rfl,h2,h3,h4⟩
 ·refine⟨⟨x.st,x.val,x.m,x.d,x.s,none,0,0⟩,rfl,rfl,rfl,rfl,rfl,rfl,?_,?_⟩
  ·exact hn.symm
  ·have hr':w.ownsRow 0 146 4 (.slice none 0 0) x.h.length (Av x.h):=hr
   rw[hn] at hr';exact hr'
 ·exact⟨⟨x.st,x.val,x.m,x.d,x.s,some g,x.h.length,cap⟩,rfl,rfl,rfl,rfl,rfl,rfl,rfl,hr⟩
theorem Nr.v{w:World}{x:Option Nod}{y:Option NP}(h:Nr w x y):∃sl,(x.getD W6).v=(y.getD NP0).v sl∧Cx w sl (y.getD NP0).h:=by
 cases x<;>cases y<;>simp only[Nr] at h
 ·exact⟨.slice none 0 0,rfl,Cx.nil w⟩
 ·rename_i a b
  obtain⟨h1,h2,h3,h4,h5,h6,h7⟩:=h;refine⟨a.sl,?_,?_⟩
  ·simp only[Option.getD_some,Nod.v,NP.v,h1,h2,h3,h4,h5]
  ·rw[h6] at h7;exact h7
theorem Mb(w:World):(zeroValue 143).run prog w=.ok W6.v w:=by kernel_rfl
def Be(w:World)(mb:Nat)(g:Int→Option NP)(q:Nat):Prop:=∃f,D1 prog 3 w mb f q∧∀i,Nr w (f i) (g i)
theorem D1.map{P:Program}{k:TypeId}{w:World}{mb q:Nat}{f:Int→Option Nod}(h:D1 P k w mb f q):∃es clock,w.heap[mb]?=some (.map es clock):=by
 obtain⟨D,⟨es,clock,hb,_⟩,_⟩:=h;exact⟨es,clock,hb⟩
theorem D1.fr{P:Program}{k:TypeId}{S:Nat→Prop}{w w':World}{mb q:Nat}{f:Int→Option Nod}(h:D1 P k w mb f q)(hf:Fr S w w')(hS:¬S mb):D1 P k w' mb f q:=by
 obtain⟨D,⟨es,clock,hb,h1⟩,h2⟩:=h;exact⟨D,⟨es,clock,(hf.block mb (Array.getElem?_eq_some_iff.1 hb).1 hS).trans hb,h1⟩,h2⟩
theorem Be.map{w:World}{mb q:Nat}{g:Int→Option NP}(h:Be w mb g q):∃es clock,w.heap[mb]?=some (.map es clock):=by
 obtain⟨f,h,_⟩:=h;exact h.map
theorem Be.lt{w:World}{mb q:Nat}{g:Int→Option NP}(h:Be w mb g q):mb<w.heap.size:=by
 obtain⟨f,h,_⟩:=h;exact h.lt
theorem Be.fr{S:Nat→Prop}{w w':World}{mb q:Nat}{g:Int→Option NP}(h:Be w mb g q)(hf:Fr S w w')(hS:¬S mb)(hs:∀k cur,w.heap[k]?=some (.cells cur 146 (0,0))→¬S k):Be w' mb g q:=by
 obtain⟨f,h1,h2⟩:=h;exact⟨f,h1.fr hf hS,fun i=>(h2 i).kept hf hs⟩
theorem Be.below{w w':World}{mb q:Nat}{g:Int→Option NP}(h:Be w mb g q)(hb:Below w.heap.size w w'):Be w' mb g q:=h.fr (S:=fun _=>False) (Fr.of hb) (fun h=>h) (fun _ _ _ h=>h)
theorem Be.made(w:World):Be (w.alloc (.map #[] 0)) w.heap.size (fun _=>none) 0:=⟨_,zAe _ _ w,fun _=>trivial⟩
theorem Be.setCell{w:World}{mb q:Nat}{g:Int→Option NP}(h:Be w mb g q){p:Addr}{cur:Array Value}{t:TypeId}{fz:Nat×Nat}(hc:w.heap[p.block]?=some (.cells cur t fz))(ht:t≠146)(v:Value):Be (w.setCell p v) mb g q:=by
 have hF:Fr (fun k=>k=p.block) w (w.setCell p v):=(Fr.refl (fun k=>k=p.block) w).setCell (p:=p) (Or.inl rfl) v;refine h.fr hF ?_ ?_
 ·rintro rfl
  obtain⟨es,clock,hm⟩:=h.map;rw[hm] at hc;cases hc
 ·rintro k cur' hk rfl
  rw[hc] at hk;injection hk with hk;injection hk with _ e;exact ht e
theorem Be.look{w:World}{mb q:Nat}{g:Int→Option NP}(h:Be w mb g q){i:Int}(hi:(Lit.int .i64 i).wf=true) :
 ∃sl,(Instr.lookup 138 (.map (some mb)) (.int .i64 i) false).run prog w=.ok (((g i).getD NP0).v sl) w∧Cx w sl ((g i).getD NP0).h:=by
 obtain⟨f,h1,h2⟩:=h;obtain⟨sl,e,hr⟩:=(h2 i).v;exact⟨sl,by rw[Sf h1 underlying3 underlying138 (Mb w) hi,e],hr⟩
theorem Be.look_ok{w:World}{mb q:Nat}{g:Int→Option NP}(h:Be w mb g q){i:Int}(hi:(Lit.int .i64 i).wf=true) :
 ∃sl,(Instr.lookup 138 (.map (some mb)) (.int .i64 i) true).run prog w=.ok (.tuple #[((g i).getD NP0).v sl,.bool (g i).isSome]) w∧Cx w sl ((g i).getD NP0).h:=by
 obtain⟨f,h1,h2⟩:=h;obtain⟨sl,e,hr⟩:=(h2 i).v;exact⟨sl,by rw[Jp h1 underlying3 underlying138 (Mb w) hi,e,(h2 i).is],hr⟩
theorem Be.ok_some{w:World}{mb q:Nat}{g:Int→Option NP}(h:Be w mb g q){i:Int}(hi:(Lit.int .i64 i).wf=true){x:NP}(hx:g i=some x) :
 ∃sa sc,(Instr.lookup 138 (.map (some mb)) (.int .i64 i) true).run prog w=.ok (.tuple #[.agg #[.int .i64 x.st,.int .i64 x.val,.int .i64 x.m,.int .i64 x.d,.int .i64 x.s,.slice sa x.h.length sc],.bool true]) w∧Cx w (.slice sa x.h.length sc) x.h:=by
 obtain⟨sl,h1,h2⟩:=h.look_ok hi;rw[hx] at h1 h2;obtain⟨sa,sc,rfl,_⟩:=h2.shape;exact⟨sa,sc,h1,h2⟩
theorem Be.ok_none{w:World}{mb q:Nat}{g:Int→Option NP}(h:Be w mb g q){i:Int}(hi:(Lit.int .i64 i).wf=true)(hx:g i=none) :
 (Instr.lookup 138 (.map (some mb)) (.int .i64 i) true).run prog w=.ok (.tuple #[.agg #[.int .i64 0,.int .i64 0,.int .i64 0,.int .i64 0,.int .i64 0,.slice none 0 0],.bool false]) w:=by
 obtain⟨f,h1,h2⟩:=h;have h3:=h2 i;rw[hx] at h3;rw[Jp h1 underlying3 underlying138 (Mb w) hi]
 cases hf:f i with
 | none=>rfl
 | some y=>rw[hf] at h3;exact h3.elim
theorem Be.at_some{w:World}{mb q:Nat}{g:Int→Option NP}(h:Be w mb g q){i:Int}(hi:(Lit.int .i64 i).wf=true){x:NP}(hx:g i=some x) :
 ∃sa sc,(Instr.lookup 138 (.map (some mb)) (.int .i64 i) false).run prog w=.ok (.agg #[.int .i64 x.st,.int .i64 x.val,.int .i64 x.m,.int .i64 x.d,.int .i64 x.s,.slice sa x.h.length sc]) w∧Cx w (.slice sa x.h.length sc) x.h:=by
 obtain⟨sl,h1,h2⟩:=h.look hi;rw[hx] at h1 h2;obtain⟨sa,sc,rfl,_⟩:=h2.shape;exact⟨sa,sc,h1,h2⟩
theorem Be.ok_some'{w:World}{mb q:Nat}{g:Int→Option NP}(h:Be w mb g q){i:Int}(hi:(Lit.int .i64 i).wf=true){x:NP}(hx:g i=some x) :
 ∃sa sc,(∀W,Below w.heap.size w W→(Instr.lookup 138 (.map (some mb)) (.int .i64 i) true).run prog W=.ok (.tuple #[.agg #[.int .i64 x.st,.int .i64 x.val,.int .i64 x.m,.int .i64 x.d,.int .i64 x.s,.slice sa x.h.length sc],.bool true]) W)∧Cx w (.slice sa x.h.length sc) x.h:=by
 obtain⟨f,h1,h2⟩:=h;obtain⟨sl,e,hr⟩:=(h2 i).v;have his:=(h2 i).is;rw[hx] at e hr his;obtain⟨sa,sc,rfl,_⟩:=hr.shape;refine⟨sa,sc,fun W hb=>?_,hr⟩;rw[Jp (h1.fr (S:=fun _=>False) (Fr.of hb) (fun h=>h)) underlying3 underlying138 (Mb W) hi,e,his]
 rfl
theorem Be.at_some'{w:World}{mb q:Nat}{g:Int→Option NP}(h:Be w mb g q){i:Int}(hi:(Lit.int .i64 i).wf=true){x:NP}(hx:g i=some x) :
 ∃sa sc,(∀W,Below w.heap.size w W→(Instr.lookup 138 (.map (some mb)) (.int .i64 i) false).run prog W=.ok (.agg #[.int .i64 x.st,.int .i64 x.val,.int .i64 x.m,.int .i64 x.d,.int .i64 x.s,.slice sa x.h.length sc]) W)∧Cx w (.slice sa x.h.length sc) x.h:=by
 obtain⟨f,h1,h2⟩:=h;obtain⟨sl,e,hr⟩:=(h2 i).v;rw[hx] at e hr;obtain⟨sa,sc,rfl,_⟩:=hr.shape;refine⟨sa,sc,fun W hb=>?_,hr⟩;rw[Sf (h1.fr (S:=fun _=>False) (Fr.of hb) (fun h=>h)) underlying3 underlying138 (Mb W) hi,e]
 rfl
def Ge(g:Int→Option NP)(i:Int)(x:NP):Int→Option NP:=fun j=>if j=i then some x else g j
theorem Be.put{w:World}{mb q:Nat}{g:Int→Option NP}(h:Be w mb g q)(hq:q<1000000){i:Int}(hi:(Lit.int .i64 i).wf=true){x:NP}{sl:Value}(hr:Cx w sl x.h) :
 ∃w',(Instr.mapUpdate 138 (.map (some mb)) (.int .i64 i) (x.v sl)).run prog w=.ok () w'∧Be w' mb (Ge g i x) (if (g i).isSome then q else q+1)∧w.grownBy w' (some mb):=by
 obtain⟨es,clock,hm⟩:=h.map;obtain⟨f,h1,h2⟩:=h;obtain⟨y,e,hy⟩:=hr.nod;rw[←e];obtain⟨w',hrun,hN,hg⟩:=zDb h1 underlying3 underlying138 hq hi y
 have hs:∀k cur,w.heap[k]?=some (.cells cur 146 (0,0))→¬(k=mb):=by
  rintro k cur hk rfl;rw[hm] at hk;cases hk
 have hf:Fr (fun k=>k=mb) w w':=Fr.grown hg (fun k e=>by injection e with e;exact e.symm);refine⟨w',hrun,⟨_,by rw[←(h2 i).is];exact hN,fun j=>?_⟩,hg⟩;unfold Ge
 split
 ·exact hy.kept hf hs
 ·exact(h2 j).kept hf hs
section
variable {w:World} {ops:Array Oper} {rest:List Oper} {o:Oper} {a:Act} {Q:Exit→Act→World→Prop}
theorem Ek(hg:o.guard=none)(m k v:Operand)(hop:o.op=Op.mapUpdate 138 m k v){mb q:Nat}{g:Int→Option NP}{i:Int}{x:NP}{sl:Value}
 (hm:a.eval m=.map (some mb)) (h:Be w mb g q) (hq:q<1000000) (hk:a.eval k=.int .i64 i) (hv:a.eval v=x.v sl) (hi:(Lit.int .i64 i).wf=true) (hr:Cx w sl x.h)
 (hK:∀w',Be w' mb (Ge g i x) (if (g i).isSome then q else q+1)→w.grownBy w' (some mb)→wpList prog ops Q rest (a.put o.dst undef) w'):wpList prog ops Q (o::rest) a w:=by
 refine wpList_plain hg fun K' hK'=>?_
 obtain⟨w',hrun,r1,r2⟩:=h.put hq hi hr;unfold Oper.wp;simp[execOp,hop,hm,hk,hv,hrun,Result.andThen];exact hK' _ _ (hK w' r1 r2)
def Bb(w:World)(mb r:Nat)(g:Int→Option NP)(q:Nat)(left:Int→Bool)(cnt:Nat):Prop:=∃f,Cm prog 3 w mb r f q left cnt∧∀i,Nr w (f i) (g i)
theorem Bb.at{mb r q cnt:Nat}{g:Int→Option NP}{left:Int→Bool}(h:Bb w mb r g q left cnt):Be w mb g q:=by
 obtain⟨f,h1,h2⟩:=h;exact⟨f,h1.at,h2⟩
theorem Bb.lt{mb r q cnt:Nat}{g:Int→Option NP}{left:Int→Bool}(h:Bb w mb r g q left cnt):r<w.heap.size:=by
 obtain⟨f,h1,h2⟩:=h;exact h1.lt
theorem Bb.iter{mb r q cnt:Nat}{g:Int→Option NP}{left:Int→Bool}(h:Bb w mb r g q left cnt):∃s seen c,w.heap[r]?=some (.mapIter (some mb) s seen c):=by
 obtain⟨f,⟨D,L,⟨es,clock,since,seen,c0,_,_,_,_,hr,_⟩,_⟩,_⟩:=h;exact⟨_,_,_,hr⟩
theorem Bb.left_eq{mb r q cnt:Nat}{g:Int→Option NP}{left:Int→Bool}(h:Bb w mb r g q left cnt):w.rangeLeft mb r=cnt:=by
 obtain⟨f,h1,h2⟩:=h;exact h1.left_eq
theorem Bb.grown{w':World}{mb r q cnt:Nat}{g:Int→Option NP}{left:Int→Bool}{row:Option Nat}(h:Bb w mb r g q left cnt)(hg:w.grownBy w' row)(h1:some mb≠row)(h2:some r≠row)(hs:∀k cur,w.heap[k]?=some (.cells cur 146 (0,0))→some k≠row):Bb w' mb r g q left cnt:=by
 obtain⟨f,h3,h4⟩:=h;exact⟨f,h3.kept hg h1 h2,fun i=>(h4 i).kept (S:=fun k=>some k=row) (Fr.grown hg (fun k e=>e.symm)) hs⟩
theorem Bb.below{w':World}{mb r q cnt:Nat}{g:Int→Option NP}{left:Int→Bool}(h:Bb w mb r g q left cnt)(hb:Below w.heap.size w w'):Bb w' mb r g q left cnt:=
 h.grown (Bw hb none) (by simp) (by simp) (by simp)
theorem Bb.put{mb r q cnt:Nat}{g:Int→Option NP}{left:Int→Bool}(h:Bb w mb r g q left cnt){i:Int}(hi:(Lit.int .i64 i).wf=true)(hf:(g i).isSome=true){x:NP}{sl:Value}(hr:Cx w sl x.h) :
 ∃w',(Instr.mapUpdate 138 (.map (some mb)) (.int .i64 i) (x.v sl)).run prog w=.ok () w'∧Bb w' mb r (Ge g i x) q left cnt∧w.grownBy w' (some mb)∧w'.heap.size=w.heap.size:=by
 obtain⟨es,clock,hm⟩:=h.at.map;obtain⟨f,h1,h2⟩:=h;obtain⟨y,e,hy⟩:=hr.nod;rw[←e];obtain⟨w',hrun,hN,hg,hz⟩:=h1.put underlying3 underlying138 hi (by rw[(h2 i).is];exact hf) y
 have hs:∀k cur,w.heap[k]?=some (.cells cur 146 (0,0))→¬(k=mb):=by
  rintro k cur hk rfl;rw[hm] at hk;cases hk
 have hF:Fr (fun k=>k=mb) w w':=Fr.grown hg (fun k e=>by injection e with e;exact e.symm);refine⟨w',hrun,⟨_,hN,fun j=>?_⟩,hg,hz⟩;unfold Ge
 split
 ·exact hy.kept hF hs
 ·exact(h2 j).kept hF hs
theorem Bb.setCell{mb r q cnt:Nat}{g:Int→Option NP}{left:Int→Bool}(h:Bb w mb r g q left cnt){p:Addr}{cur:Array Value}{t:TypeId}{fz:Nat×Nat}(hc:w.heap[p.block]?=some (.cells cur t fz))(ht:t≠146)(v:Value):Bb (w.setCell p v) mb r g q left cnt:=by
 have hg:w.grownBy (w.setCell p v) (some p.block):=⟨rfl,rfl,rfl,by simp[World.setCell],fun k _ hn=>Below.heap_setCell _ _ _ _ (fun e=>hn (by rw[e]))⟩;refine h.grown hg (fun e=>?_) (fun e=>?_) (fun k cur' hk e=>?_)
 ·injection e with e
  obtain⟨es,clock,hm⟩:=h.at.map;rw[e,hc] at hm;cases hm
 ·injection e with e
  obtain⟨s,seen,c,hm⟩:=h.iter;rw[e,hc] at hm;cases hm
 ·injection e with e
  rw[e,hc] at hk;injection hk with hk;injection hk with _ e2;exact ht e2
theorem Bb.other{w':World}{mb r q cnt m2:Nat}{g:Int→Option NP}{left:Int→Bool}(h:Bb w mb r g q left cnt)(hne:mb≠m2){es:Array MapEntry}{clock:Nat}(hm:w.heap[m2]?=some (.map es clock))(hg:w.grownBy w' (some m2)):Bb w' mb r g q left cnt:=by
 refine h.grown hg (fun e=>hne (by injection e)) (fun e=>?_) (fun k cur' hk e=>?_)
 ·injection e with e
  obtain⟨s,seen,c,hi⟩:=h.iter;rw[e,hm] at hi;cases hi
 ·injection e with e
  rw[e,hm] at hk;cases hk
theorem Bb.push{w':World}{mb r q cnt base n:Nat}{g:Int→Option NP}{left:Int→Bool}(h:Bb w mb r g q left cnt){v:Value}{xs:List Value}(hv:w.ownsRow base 3 1 v n xs)(hg:w.grownBy w' v.ownBlock):Bb w' mb r g q left cnt:=by
 refine h.grown hg (fun e=>?_) (fun e=>?_) (fun k cur' hk e=>?_)
 ·obtain⟨cur,hc⟩:=Ey hv _ e.symm
  obtain⟨es,clock,hm⟩:=h.at.map;rw[hc] at hm;cases hm
 ·obtain⟨cur,hc⟩:=Ey hv _ e.symm
  obtain⟨s,seen,c,hi⟩:=h.iter;rw[hc] at hi;cases hi
 ·obtain⟨cur,hc⟩:=Ey hv _ e.symm
  rw[hc] at hk;injection hk with hk;injection hk with _ e2;revert e2;decide
theorem Kb(hg:o.guard=none)(m k v:Operand)(hop:o.op=Op.mapUpdate 138 m k v){mb r q cnt:Nat}{g:Int→Option NP}{left:Int→Bool}{i:Int}{x:NP}{sl:Value}
 (hm:a.eval m=.map (some mb)) (h:Bb w mb r g q left cnt) (hk:a.eval k=.int .i64 i) (hv:a.eval v=x.v sl) (hi:(Lit.int .i64 i).wf=true) (hf:(g i).isSome=true) (hr:Cx w sl x.h)
 (hK:∀w',Bb w' mb r (Ge g i x) q left cnt→w.grownBy w' (some mb)→w'.heap.size=w.heap.size→wpList prog ops Q rest (a.put o.dst undef) w'):wpList prog ops Q (o::rest) a w:=by
 refine wpList_plain hg fun K' hK'=>?_
 obtain⟨w',hrun,r1,r2,r3⟩:=h.put hi hf hr;unfold Oper.wp;simp[execOp,hop,hm,hk,hv,hrun,Result.andThen];exact hK' _ _ (hK w' r1 r2 r3)
theorem El(hg:o.guard=none)(m:Operand)(hop:o.op=Op.range 138 m){mb q:Nat}{g:Int→Option NP}
 (hm:a.eval m=.map (some mb)) (h:Be w mb g q)
 (hK:∀w',Bb w' mb w.heap.size g q (fun i=>(g i).isSome) q→Below w.heap.size w w'→w'.heap.size=w.heap.size+1→wpList prog ops Q rest (a.put o.dst (.pointer (some ⟨w.heap.size,0,none⟩))) w') :
 wpList prog ops Q (o::rest) a w:=by
 obtain⟨f,h1,h2⟩:=h;refine Np hg m hop underlying3 underlying138 hm h1 fun w' hr hg1 hz=>?_
 have hb:Below w.heap.size w w':=zb.grown hg1 zl (fun j e=>by simp at e);have e:(fun i=>(g i).isSome)=fun i=>(f i).isSome:=funext fun i=>(h2 i).is.symm
 exact hK w' ⟨f,by rw[e];exact hr,fun i=>(h2 i).kept (S:=fun _=>False) (Fr.of hb) (fun _ _ _ h=>h)⟩ hb hz
theorem E0(hg:o.guard=none)(it:Operand)(hop:o.op=Op.next it false){mb r q cnt:Nat}{g:Int→Option NP}{left:Int→Bool}
 (hit:a.eval it=.pointer (some ⟨r,0,none⟩)) (h:Bb w mb r g q left cnt)
 (hDone:cnt=0→(∀i,left i=false)→wpList prog ops Q rest (a.put o.dst (.tuple #[.bool false])) w)
 (hMore:∀(i:Int) (x:NP) (sa:Option Addr) (sc:Nat) (w':World) (cnt':Nat),(Lit.int .i64 i).wf=true→left i=true→g i=some x→Cx w' (.slice sa x.h.length sc) x.h→Bb w' mb r g q (fun j=>left j&&!(j==i)) cnt'→cnt'<cnt→w.grownBy w' (some r)→w'.heap.size=w.heap.size→
  (Instr.entry (.pointer (some ⟨r,0,none⟩))).run prog w'=.ok (.tuple #[.int .i64 i,.agg #[.int .i64 x.st,.int .i64 x.val,.int .i64 x.m,.int .i64 x.d,.int .i64 x.s,.slice sa x.h.length sc]]) w'→wpList prog ops Q rest (a.put o.dst (.tuple #[.bool true,.int .i64 i,.agg #[.int .i64 x.st,.int .i64 x.val,.int .i64 x.m,.int .i64 x.d,.int .i64 x.s,.slice sa x.h.length sc]])) w') :
 wpList prog ops Q (o::rest) a w:=by
 have hes:∀k cur,w.heap[k]?=some (.cells cur 146 (0,0))→k≠r:=by
  rintro k cur hk rfl;obtain⟨s,seen,c,hi⟩:=h.iter;rw[hi] at hk;cases hk
 obtain⟨f,h1,h2⟩:=h;refine O1 hg it hop underlying3 hit h1 hDone fun i x w' cnt' hi hl hf hr hlt hgr hz he=>?_
 have hk:∀j,Nr w' (f j) (g j):=fun j=>(h2 j).kept (S:=fun k=>k=r) (Fr.grown hgr (fun k e=>by injection e with e;exact e.symm)) (fun k cur hk e=>hes k cur hk e)
 obtain⟨sl,e,hrow⟩:=(hk i).v;have hi2:=hk i;rw[hf] at e hi2
 cases hgi:g i with
 | none=>rw[hgi] at hi2;exact hi2.elim
 | some y=>
  rw[hgi] at e hrow;have e':x.v=y.v sl:=e;rw[e'] at he ⊢;obtain⟨sa,sc,rfl,_⟩:=Cx.shape (h:=y.h) hrow;exact hMore i y sa sc w' cnt' hi hl hgi hrow ⟨f,hr,hk⟩ hlt hgr hz he
end
def B9:List (Int×Int):=(List.range 16).map fun k=>(((k/4:Nat):Int),((k%4:Nat):Int))
theorem Ps:∀p∈B9,G2 p=true:=by decide
theorem V8{a b:Int}(ha:0≤a∧a≤3)(hb:0≤b∧b≤3):(a,b)∈B9:=by
 have h1:a=0∨a=1∨a=2∨a=3:=by omega
 have h2:b=0∨b=1∨b=2∨b=3:=by omega
 rcases h1 with rfl|rfl|rfl|rfl<;>rcases h2 with rfl|rfl|rfl|rfl<;>decide
structure CL where
 cb:Nat
 bb:Nat
 mb:Nat
 mm:Nat
 pa:Option Addr
 pc:Nat
def CL.own(L:CL):Nat→Prop:=fun k=>k=L.cb∨k=L.bb∨k=L.mb
structure Ap(w:World)(L:CL)(c:CP):Prop where
 blk:w.heap[L.cb]?=some (.cells #[.slice L.pa c.plan.length L.pc,.int .i64 c.time,.pointer (some ⟨L.bb,0,none⟩),.map (some L.mb)] 141 (0,0))
 plan:w.ownsRow 0 3 1 (.slice L.pa c.plan.length L.pc) c.plan.length (Aa c.plan)
 board:Eb w L.bb L.mm B9 c.now c.asked
 nodes:∃q,q≤100∧Be w L.mb c.f q
 ne:L.mb≠L.mm
theorem D6.map{w:World}{mb:Nat}{l:List (Int×Int)}(h:D6 w mb l):∃es clock,w.heap[mb]?=some (.map es clock):=by
 obtain⟨n,_,⟨es,clock,hb,_⟩⟩:=h;exact⟨es,clock,hb⟩
theorem D6.fr{S:Nat→Prop}{w w':World}{mb:Nat}{l:List (Int×Int)}(h:D6 w mb l)(hf:Fr S w w')(hS:¬S mb):D6 w' mb l:=by
 obtain⟨n,h0,⟨es,clock,hb,h1⟩⟩:=h;exact⟨n,h0,⟨es,clock,(hf.block mb (Array.getElem?_eq_some_iff.1 hb).1 hS).trans hb,h1⟩⟩
theorem Eb.fr{S:Nat→Prop}{w w':World}{b mb:Nat}{l:List (Int×Int)}{now asked:Int}(h:Eb w b mb l now asked)(hf:Fr S w w')(h1:¬S b)(h2:¬S mb):Eb w' b mb l now asked:=
 ⟨(hf.block b (Array.getElem?_eq_some_iff.1 h.1).1 h1).trans h.1,h.2.1,h.2.2.fr hf h2⟩
theorem Ap.kept{S:Nat→Prop}{w w':World}{L:CL}{c:CP}(h:Ap w L c)(hf:Fr S w w')(h1:∀k,L.own k→¬S k)(h2:¬S L.mm)(h3:∀k cur t,w.heap[k]?=some (.cells cur t (0,0))→t=3∨t=146→¬S k):Ap w' L c:=by
 obtain⟨a1,a2,a3,⟨q,hq,a4⟩,a6⟩:=h;exact⟨(hf.block L.cb (Array.getElem?_eq_some_iff.1 a1).1 (h1 _ (Or.inl rfl))).trans a1,Dh a2 hf (fun k cur hk=>h3 k cur _ hk (Or.inl rfl)),a3.fr hf (h1 _ (Or.inr (Or.inl rfl))) h2,⟨q,hq,a4.fr hf (h1 _ (Or.inr (Or.inr rfl))) (fun k cur hk=>h3 k cur _ hk (Or.inr rfl))⟩,a6⟩
theorem Ap.below{w w':World}{L:CL}{c:CP}(h:Ap w L c)(hb:Below w.heap.size w w'):Ap w' L c:=
 h.kept (S:=fun _=>False) (Fr.of hb) (fun _ _ h=>h) (fun h=>h) (fun _ _ _ _ _ h=>h)
theorem Ap.drewN{w:World}{L:CL}{c:CP}(h:Ap w L c)(n:Nat):Ap (w.drewN n) L c:=h.below (Ab zb n)
theorem Ap.apart{w:World}{L:CL}{c:CP}(h:Ap w L c):L.bb≠L.cb∧L.mb≠L.cb∧L.mb≠L.bb∧L.mm≠L.cb∧L.mm≠L.bb∧L.mb≠L.mm:=by
 obtain⟨a1,_,a3,⟨q,_,a4⟩,a6⟩:=h;obtain⟨es,clock,hm⟩:=a4.map;obtain⟨es2,clock2,hm2⟩:=a3.2.2.map;refine⟨fun e=>?_,fun e=>?_,fun e=>?_,fun e=>?_,a3.2.1,a6⟩
 ·rw[←e,a3.1] at a1;injection a1 with a1;injection a1 with _ e2;revert e2;decide
 ·rw[←e,hm] at a1;cases a1
 ·rw[e,a3.1] at hm;cases hm
 ·rw[←e,hm2] at a1;cases a1
theorem Ap.lt{w:World}{L:CL}{c:CP}(h:Ap w L c):L.cb<w.heap.size∧L.bb<w.heap.size∧L.mb<w.heap.size∧L.mm<w.heap.size:=by
 obtain⟨a1,_,a3,⟨q,_,a4⟩,a6⟩:=h;exact⟨(Array.getElem?_eq_some_iff.1 a1).1,(Array.getElem?_eq_some_iff.1 a3.1).1,a4.lt,a3.2.2.lt⟩
theorem Ap.rows{w:World}{L:CL}{c:CP}(h:Ap w L c):∀k cur t,w.heap[k]?=some (.cells cur t (0,0))→t=3∨t=146→¬L.own k:=by
 intro k cur t hk ht ho;obtain⟨a1,_,a3,⟨q,_,a4⟩,_⟩:=h
 rcases ho with rfl|rfl|rfl
 ·rw[a1] at hk;injection hk with hk;injection hk with _ e;rw[←e] at ht;revert ht;decide
 ·rw[a3.1] at hk;injection hk with hk;injection hk with _ e;rw[←e] at ht;revert ht;decide
 ·obtain⟨es,clock,hm⟩:=a4.map
  rw[hm] at hk;cases hk
theorem Ap.row{w:World}{L:CL}{c:CP}(h:Ap w L c):Ac w L.pa (Aa c.plan):=Cd h.plan
theorem Ap.cells{w:World}{L:CL}{c:CP}(h:Ap w L c):w.cell? ⟨L.cb,0,none⟩=some (.slice L.pa c.plan.length L.pc)∧w.cell? ⟨L.cb,1,none⟩=some (.int .i64 c.time)∧w.cell? ⟨L.cb,2,none⟩=some (.pointer (some ⟨L.bb,0,none⟩))∧w.cell? ⟨L.cb,3,none⟩=some (.map (some L.mb)):=
 ⟨cell_of_row w L.cb 0 _ _ _ h.blk,cell_of_row w L.cb 1 _ _ _ h.blk,cell_of_row w L.cb 2 _ _ _ h.blk,cell_of_row w L.cb 3 _ _ _ h.blk⟩
theorem Ap.map{S:Nat→Prop}{w w':World}{L:CL}{c:CP}(h:Ap w L c)(hf:Fr S w w')(hS:∀k,k<w.heap.size→S k→k=L.mb){g:Int→Option NP}{q:Nat}(hq:q≤100)(hN:Be w' L.mb g q):Ap w' L ⟨c.plan,c.time,c.now,c.asked,g⟩:=by
 obtain⟨p1,p2,p3,p4,p5,p6⟩:=h.apart;obtain⟨l1,l2,l3,l4⟩:=h.lt;have hr:=h.rows;obtain⟨a1,a2,a3,_,a6⟩:=h;exact⟨(hf.block L.cb l1 (fun hx=>p2 (hS _ l1 hx).symm)).trans a1,Dh a2 hf (fun k cur hk hx=>hr k cur _ hk (Or.inl rfl) (Or.inr (Or.inr (hS k (Array.getElem?_eq_some_iff.1 hk).1 hx)))),a3.fr hf (fun hx=>p3 (hS _ l2 hx).symm) (fun hx=>p6 (hS _ l4 hx).symm),⟨q,hq,hN⟩,a6⟩
theorem Fr.own{w w':World}{L:CL}{S:Nat→Prop}(h:Fr S w w')(hs:∀k,k<w.heap.size→S k→L.own k):Fr L.own w w':=
 ⟨h.os,h.tape,h.output,h.size,fun k hk hn=>h.block k hk (fun hx=>hn (hs k hk hx))⟩
theorem Ap.putMap{w W w':World}{L:CL}{c:CP}(h:Ap w L c)(hb:Below w.heap.size w W){g:Int→Option NP}{q:Nat}(hN:Be w' L.mb g q)(hq:q≤100)(hg:W.grownBy w' (some L.mb)):Ap w' L ⟨c.plan,c.time,c.now,c.asked,g⟩∧Fr L.own w w':=by
 have hf:Fr (fun k=>k=L.mb) w w':=(Fr.of hb).trans (Fr.grown hg (fun k e=>by injection e with e;exact e.symm));exact⟨h.map hf (fun k _ e=>e) hq hN,hf.own (fun k _ e=>Or.inr (Or.inr e))⟩
structure Six(W:World)(k:Nat)(t:TypeId)(a b c d e f:Value):Prop where
 obj:∃cur,W.heap[k]?=some (.cells cur t (0,0))
 c0:W.cell? ⟨k,0,none⟩=some a
 c1:W.cell? ⟨k,1,none⟩=some b
 c2:W.cell? ⟨k,2,none⟩=some c
 c3:W.cell? ⟨k,3,none⟩=some d
 c4:W.cell? ⟨k,4,none⟩=some e
 c5:W.cell? ⟨k,5,none⟩=some f
 fz:∀o,W.frozen? ⟨k,o,none⟩=false
 lt:k<W.heap.size
theorem Six.below{W W':World}{k:Nat}{t:TypeId}{a b c d e f:Value}(h:Six W k t a b c d e f)(hb:Below W.heap.size W W'):Six W' k t a b c d e f:=
 ⟨h.obj.imp fun _ hx=>(hb.block k h.lt).trans hx,(hb.cell (p:=⟨k,0,none⟩) h.lt).trans h.c0,(hb.cell (p:=⟨k,1,none⟩) h.lt).trans h.c1,(hb.cell (p:=⟨k,2,none⟩) h.lt).trans h.c2,(hb.cell (p:=⟨k,3,none⟩) h.lt).trans h.c3,(hb.cell (p:=⟨k,4,none⟩) h.lt).trans h.c4,(hb.cell (p:=⟨k,5,none⟩) h.lt).trans h.c5,fun o=>(hb.frozen (p:=⟨k,o,none⟩) h.lt).trans (h.fz o),Nat.lt_of_lt_of_le h.lt hb.size⟩
theorem Ng(w:World)(t:TypeId)(a b c d e f:Value):∃W,W=w.alloc (.cells #[a,b,c,d,e,f] t)∧Six W w.heap.size t a b c d e f∧Below w.heap.size w W∧W.heap.size=w.heap.size+1∧(∀k o,k<w.heap.size→W.cell? ⟨k,o,none⟩=w.cell? ⟨k,o,none⟩):=
 ⟨_,rfl,⟨⟨_,World.alloc_heap_new w _⟩,by simp,by simp,by simp,by simp,by simp,by simp,fun o=>by simp,by simp⟩,zb.alloc zl _,by simp,fun k o hk=>((Below.refl w.heap.size w).alloc zl _).cell (p:=⟨k,o,none⟩) hk⟩
theorem Uk(L:CL)(c:CP)(w:World)(h:Ap w L c) :
 Calls prog 47 #[.pointer (some ⟨L.cb,0,none⟩)] w fun e w'=>e=.returned (.int .i64 c.time)∧w=w':=by
 obtain⟨_,c1,_,_⟩:=h.cells;clear h;go_enter func47,ntmps47;go_wp2;go_ret;exact⟨rfl,rfl⟩
theorem zE8(ea:Nat→Addr)(L:CL)(c:CP)(i v:Int)(w:World)(hg:Bh w ea [4,2])(h:Ap w L c)(hi:(Lit.int .i64 i).wf=true) :
 Calls prog 140 #[.pointer (some ⟨L.cb,0,none⟩),.int .i64 i,.int .i64 v] w fun e w'=>e=.returned (Bm ea (c.set i v).2)∧Ap w' L (c.set i v).1∧Fr L.own w w':=by
 obtain⟨c0,c1,c2,c3⟩:=h.cells;obtain⟨l1,l2,l3,l4⟩:=h.lt;obtain⟨q,hq,hN⟩:=h.nodes;have g4:=hg.cell 4 (by simp);have g2:=hg.cell 2 (by simp);have gl4:=hg.lt 4 (by simp);have gl2:=hg.lt 2 (by simp);simp only[gOf] at g4 g2 gl4 gl2;have HN:=zh hN;have H:=zh h;clear h hN
 cases hf:c.f i with
 | none=>
  have HS:Hid (c.set i v=(c,4)):=by unfold Hid CP.set;rw[hf]
  have hlk:=HN.out.ok_none hi hf;clear hf;go_enter func140,ntmps140;go_wp2;go_ret;rw[HS.out];exact⟨rfl,H.out.below (zb.alloc zl _),(Fr.refl _ _).alloc _⟩
 | some x=>
  obtain⟨sa,sc,hlk,hrow⟩:=HN.out.ok_some hi hf;have HR:=zh hrow;clear hrow
  by_cases hv:Cr v=true
  ·have HS:Hid (c.set i v=(⟨c.plan,c.time,c.now,c.asked,Ge c.f i ⟨x.st,v,x.m,x.d,x.s,x.h⟩⟩,0)):=by unfold Hid CP.set;rw[hf];simp only[hv,if_true];rfl
   have HF:=zh hf;have HV : -1048576≤v∧v≤1048576:=by simpa[Cr] using hv
   obtain⟨hv1,hv2⟩:=HV;have hd1:decide (v < -1048576)=false:=by simpa using hv1
   have hd2:decide (1048576<v)=false:=by simpa using hv2
   clear hf hv;go_enter func140,ntmps140;go_wp2;obtain⟨W2,hW2,⟨_,n0,n1,n2,n3,n4,n5,_,_⟩,hb2,hz2,hc2⟩:=Ng w 143 (.int .i64 x.st) (.int .i64 v) (.int .i64 x.m) (.int .i64 x.d) (.int .i64 x.s) (.slice sa x.h.length sc);have k3:=(hc2 L.cb 3 l1).trans c3;rw[←hW2];have H2:=zh (H.out.below hb2);have HN2:=zh (HN.out.below (Ab hb2 1));have HR2:=zh (HR.out.below (Ab hb2 1));clear hW2 hz2 hc2;go_still_tail 6,(by kernel_rfl)
   change wpList _ _ _ _ _ W2.drew
   go_wp2_with (at_mapUpdate;refine Ek rfl _ _ _ rfl (mb:=L.mb) (g:=c.f) (q:=q) (i:=i) (x:=⟨x.st,v,x.m,x.d,x.s,x.h⟩) (sl:=.slice sa x.h.length sc) rfl HN2.out (by omega) rfl rfl hi HR2.out ?_;intro w3 hN3 hg3);go_ret;rw[HS.out];rw[HF.out] at hN3;obtain⟨r1,r2⟩:=H.out.putMap (Ab hb2 1) hN3 hq hg3;exact⟨(Lz ea rfl)▸rfl,r1,r2⟩
  ·have HS:Hid (c.set i v=(c,2)):=by unfold Hid CP.set;rw[hf];simp only[hv];rfl
   have HV:v < -1048576∨1048576<v:=by
    have h1:¬(-1048576≤v∧v≤1048576):=by simpa[Cr] using hv
    omega
   clear hf hv
   rcases HV with hv|hv
   ·go_enter func140,ntmps140
    go_wp2;go_ret;rw[HS.out];exact⟨rfl,H.out.below (zb.alloc zl _),(Fr.refl _ _).alloc _⟩
   ·have hv1:decide (v < -1048576)=false:=by simp;omega
    go_enter func140,ntmps140;go_wp2;go_ret;rw[HS.out];exact⟨rfl,H.out.below (zb.alloc zl _),(Fr.refl _ _).alloc _⟩
theorem Ul(ea:Nat→Addr)(L:CL)(c:CP)(i t:Int)(w:World)(hg:Bh w ea [4,6])(h:Ap w L c)(hi:(Lit.int .i64 i).wf=true) :
 Calls prog 141 #[.pointer (some ⟨L.cb,0,none⟩),.int .i64 i,.int .i64 t] w fun e w'=>e=.returned (Bm ea (c.turn i t).2)∧Ap w' L (c.turn i t).1∧Fr L.own w w':=by
 obtain⟨c0,c1,c2,c3⟩:=h.cells;obtain⟨l1,l2,l3,l4⟩:=h.lt;obtain⟨q,hq,hN⟩:=h.nodes;have g4:=hg.cell 4 (by simp);have g2:=hg.cell 6 (by simp);have gl4:=hg.lt 4 (by simp);have gl2:=hg.lt 6 (by simp);simp only[gOf] at g4 g2 gl4 gl2;have HN:=zh hN;have H:=zh h;clear h hN
 cases hf:c.f i with
 | none=>
  have HS:Hid (c.turn i t=(c,4)):=by unfold Hid CP.turn;rw[hf]
  have hlk:=HN.out.ok_none hi hf;clear hf;go_enter func141,ntmps141;go_wp2;go_ret;rw[HS.out];exact⟨rfl,H.out.below (zb.alloc zl _),(Fr.refl _ _).alloc _⟩
 | some x=>
  obtain⟨sa,sc,hlk,hrow⟩:=HN.out.ok_some hi hf;clear hrow
  by_cases hv:x.st=0↔t=0
  ·have HS:Hid (c.turn i t=(c,6)):=by unfold Hid CP.turn;rw[hf];simp only[hv,if_true]
   have hd:((x.st==0)==(t==0))=true:=by
    by_cases h1:t=0
    ·have h2:=hv.2 h1;simp[h1,h2]
    ·have h2:¬x.st=0:=fun e=>h1 (hv.1 e)
     have e1:(x.st==0)=false:=by simpa using h2
     have e2:(t==0)=false:=by simpa using h1
     rw[e1,e2];rfl
   clear hf hv;go_enter func141,ntmps141;go_wp2;go_ret;rw[HS.out];exact⟨rfl,H.out.below (zb.alloc zl _),(Fr.refl _ _).alloc _⟩
  ·have HS:Hid (c.turn i t=(⟨c.plan,c.time,c.now,c.asked,Ge c.f i ⟨t,x.val,0,0,0,[]⟩⟩,0)):=by unfold Hid CP.turn;rw[hf];simp only[hv,if_false];rfl
   have HF:=zh hf
   have hd:((x.st==0)==(t==0))=false:=by
    rw[Bool.eq_false_iff];intro e;apply hv;rw[beq_iff_eq,Bool.eq_iff_iff,beq_iff_eq,beq_iff_eq] at e;exact e
   clear hf hv;go_enter func141,ntmps141;go_wp2;obtain⟨W2,hW2,⟨_,n0,n1,n2,n3,n4,n5,_,_⟩,hb2,hz2,hc2⟩:=Ng w 143 (.int .i64 x.st) (.int .i64 x.val) (.int .i64 x.m) (.int .i64 x.d) (.int .i64 x.s) (.slice sa x.h.length sc);have k3:=(hc2 L.cb 3 l1).trans c3;rw[←hW2];have HN2:=zh (HN.out.below (Ab hb2 1));clear hW2 hz2 hc2;go_still_tail 9,(by kernel_rfl)
   change wpList _ _ _ _ _ W2.drew
   go_wp2_with (at_mapUpdate;refine Ek rfl _ _ _ rfl (mb:=L.mb) (g:=c.f) (q:=q) (i:=i) (x:=⟨t,x.val,0,0,0,[]⟩) (sl:=.slice none 0 0) rfl HN2.out (by omega) rfl rfl hi (Cx.nil _) ?_;intro w3 hN3 hg3);go_ret;rw[HS.out];rw[HF.out] at hN3;obtain⟨r1,r2⟩:=H.out.putMap (Ab hb2 1) hN3 hq hg3;exact⟨(Lz ea rfl)▸rfl,r1,r2⟩
theorem zE7(ea:Nat→Addr)(L:CL)(c:CP)(i:Int)(w:World)(hg:Bh w ea [4,6])(h:Ap w L c)(hi:(Lit.int .i64 i).wf=true) :
 Calls prog 81 #[.pointer (some ⟨L.cb,0,none⟩),.int .i64 i] w fun e w'=>e=.returned (Bm ea (c.turn i 0).2)∧Ap w' L (c.turn i 0).1∧Fr L.own w w':=by
 have C:=zh (Ul ea L c i 0 w hg h hi);clear hg h;go_enter func81,ntmps81;go_wp2_with fail;refine C.out.mono ?_;rintro e w1⟨rfl,h1,h2⟩;go_wp2;go_ret;exact⟨rfl,h1,h2⟩
theorem zH2(ea:Nat→Addr)(L:CL)(c:CP)(i:Int)(w:World)(hg:Bh w ea [4,6])(h:Ap w L c)(hi:(Lit.int .i64 i).wf=true) :
 Calls prog 82 #[.pointer (some ⟨L.cb,0,none⟩),.int .i64 i] w fun e w'=>e=.returned (Bm ea (c.turn i 1).2)∧Ap w' L (c.turn i 1).1∧Fr L.own w w':=by
 have C:=zh (Ul ea L c i 1 w hg h hi);clear hg h;go_enter func82,ntmps82;go_wp2_with fail;refine C.out.mono ?_;rintro e w1⟨rfl,h1,h2⟩;go_wp2;go_ret;exact⟨rfl,h1,h2⟩
theorem zJj{c:CP}(h1:0≤c.now∧c.now≤3)(t:Int):(c.ask t).2=Kg B9 c.now c.asked t∧(c.ask t).1=⟨c.plan,c.time,c.now,Re B9 c.now c.asked t,c.f⟩:=by
 by_cases ht:t<0∨3<t
 ·have hm:Dj t=false:=by simp only[Dj,decide_eq_false_iff_not];omega
  have e:Kg B9 c.now c.asked t=2:=by rw[Kg,if_pos hm]
  rw[Re,e,CP.ask,if_pos ht,if_neg (by omega)];exact⟨rfl,rfl⟩
 ·have hm:Dj t=true:=by simp only[Dj,decide_eq_true_eq];omega
  by_cases ha:0≤c.asked
  ·have e:Kg B9 c.now c.asked t=6:=by rw[Kg,if_neg (by simp[hm]),if_pos ha]
   rw[Re,e,CP.ask,if_neg ht,if_pos ha,if_neg (by omega)];exact⟨rfl,rfl⟩
  ·have e:Kg B9 c.now c.asked t=0:=by rw[Kg,if_neg (by simp[hm]),if_neg ha,if_pos (V8 h1 (by omega))]
   rw[Re,e,CP.ask,if_neg ht,if_neg ha,if_pos rfl];exact⟨rfl,rfl⟩
theorem zE5(ea:Nat→Addr)(L:CL)(c:CP)(t:Int)(w:World)(hg:Bh w ea [2,6,3])(h:Ap w L c)(hn:0≤c.now∧c.now≤3)(hk:c.asked=-1∨(0≤c.asked∧c.asked≤3)) :
 Calls prog 83 #[.pointer (some ⟨L.cb,0,none⟩),.int .i64 t] w fun e w'=>e=.returned (Bm ea (c.ask t).2)∧Ap w' L (c.ask t).1∧Fr L.own w w':=by
 obtain⟨c0,c1,c2,c3⟩:=h.cells;have C:=zh (zJ9 ea L.bb L.mm B9 c.now c.asked t w hg h.board Ps (by simp only[Dj,decide_eq_true_eq];omega) (by omega));have HE:=zh (zJj hn t);have H:=zh h;clear h hg hn hk;go_enter func83,ntmps83;go_wp2_with fail;refine C.out.mono ?_;rintro e w1⟨rfl,hB,hg,hb,hz⟩;go_wp2;go_ret;obtain⟨e1,e2⟩:=HE.out;rw[e1,e2];obtain⟨p1,p2,p3,p4,p5,p6⟩:=H.out.apart;obtain⟨l1,l2,l3,l4⟩:=H.out.lt;have hr:=H.out.rows;obtain⟨a1,a2,a3,⟨q,hq,a4⟩,a6⟩:=H.out;have hf:Fr (fun k=>k=L.bb) w w1:=Fr.grown hg (fun k e=>by injection e with e;exact e.symm);refine⟨rfl,⟨(hf.block L.cb l1 (fun e=>p1 e.symm)).trans a1,Dh a2 hf (fun k cur hk e=>hr k cur _ hk (Or.inl rfl) (Or.inr (Or.inl e))),hB,⟨q,hq,a4.fr hf p3 (fun k cur hk e=>hr k cur _ hk (Or.inr rfl) (Or.inr (Or.inl e)))⟩,a6⟩,hf.own (fun k _ e=>Or.inr (Or.inl e))⟩
end Go.Proofs.YtppfkokfnoeopaaGreatDoor
