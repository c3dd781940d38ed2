/- A part of a proof. -/
import Derived.WalkKit
import Derived.Lib.Hide
import Derived.Deep.Draws
import Derived.Laws.BitsAllLaws
import Derived.Laws.BitsLemmas
import Derived.IntWalk
import Derived.Test.YtppfkokfnoeopaaGreatDoorProg
import Derived.BigQuiet
import Derived.Deep.QuietTactic
import Derived.RangeFuncBox
namespace Go.Proofs.YtppfkokfnoeopaaGreatDoor
open Go.RowKit
theorem below_drewN{B:Nat}{a w:World}(h:Below B a w)(n:Nat):Below B a (w.drewN n):=⟨h.os,h.tape,h.output,h.size,h.block⟩
def RowAt(w:World)(a:Option Addr)(cs:List Value):Prop:=
 cs=[]∨∃b off,a=some ⟨b,off,none⟩∧b<w.heap.size∧∀i v,cs[i]?=some v→w.cell? ⟨b,off+i,none⟩=some v
theorem RowAt.nil(w:World)(a:Option Addr):RowAt w a []:=Or.inl rfl
theorem RowAt.below{w w':World}{a:Option Addr}{cs:List Value}(h:RowAt w a cs)(hb:Below w.heap.size w w'):RowAt w' a cs:=by
 rcases h with h|⟨b,off,rfl,hlt,hc⟩
 ·exact Or.inl h
 ·exact Or.inr ⟨b,off,rfl,Nat.lt_of_lt_of_le hlt hb.size,fun i v hv=>(hb.cell (p:=⟨b,off+i,none⟩) hlt).trans (hc i v hv)⟩
theorem RowAt.at{w:World}{a:Option Addr}{cs:List Value}(h:RowAt w a cs)(hne:cs≠[]) :
 ∃b off,a=some ⟨b,off,none⟩∧b<w.heap.size∧∀i v,cs[i]?=some v→w.cell? ⟨b,off+i,none⟩=some v:=h.resolve_left hne
theorem RowAt.cell{w:World}{b off:Nat}{cs:List Value}(h:RowAt w (some ⟨b,off,none⟩) cs){i:Nat}{v:Value}(hv:cs[i]?=some v):w.cell? ⟨b,off+i,none⟩=some v:=by
 rcases h with rfl|⟨b',off',e,_,hc⟩
 ·simp at hv
 ·cases e;exact hc i v hv
theorem ret_bool{a b:Bool}(h:a=b):Ending.returned (.bool a)=.returned (.bool b):=by rw[h]
theorem ret_int{k:IntKind}{a b:Int}(h:a=b):Ending.returned (.int k a)=.returned (.int k b):=by rw[h]
theorem ret_v{a b:Value}(h:a=b):Ending.returned a=.returned b:=by rw[h]
theorem RowAt.drop{w:World}{a:Option Addr}{cs:List Value}(h:RowAt w a cs)(m:Nat):RowAt w (a.map fun x=>x.add m) (cs.drop m):=by
 rcases h with rfl|⟨b,off,rfl,hlt,hc⟩
 ·exact Or.inl (by simp)
 ·refine Or.inr ⟨b,off+m,by simp only[Option.map_some,Addr.add];split<;>simp_all,hlt,fun i v hv=>?_⟩
  rw[List.getElem?_drop] at hv;rw[Nat.add_assoc];exact hc _ _ hv
theorem RowAt.take{w:World}{a:Option Addr}{cs:List Value}(h:RowAt w a cs)(m:Nat):RowAt w a (cs.take m):=by
 rcases h with rfl|⟨b,off,rfl,hlt,hc⟩
 ·exact Or.inl (by simp)
 ·refine Or.inr ⟨b,off,rfl,hlt,fun i v hv=>hc i v ?_⟩
  rw[List.getElem?_take] at hv
  split at hv
  ·exact hv
  ·cases hv
def encInts(l:List Int):List Value:=l.map (Value.int .i64)
theorem encInts_length(l:List Int):(encInts l).length=l.length:=by simp[encInts]
theorem RowAt.int{w:World}{a:Option Addr}{l:List Int}(h:RowAt w a (encInts l))(k:Nat)(hk:k<l.length) :
 ∃b off,a=some ⟨b,off,none⟩∧b<w.heap.size∧w.cell? ⟨b,off+k,none⟩=some (.int .i64 l[k]):=by
 obtain⟨b,off,rfl,hlt,hc⟩:=h.at (fun e=>by have:=encInts_length l;rw[e] at this;simp at this;omega);exact⟨b,off,rfl,hlt,hc k _ (by simp[encInts,hk])⟩
def gOf:Nat→Nat
 | 1=>1
 | 2=>0
 | 3=>2
 | 4=>4
 | 5=>5
 | 6=>6
 | 7=>3
 | 8=>7
 | 9=>8
 | 10=>9
 | 11=>10
 | _=>0
def errV(ea:Nat→Addr)(k:Nat):Value:=if k=0 then .nilIface else .iface 346 (.pointer (some (ea k)))
theorem errV_zero(ea:Nat→Addr):errV ea 0=.nilIface:=rfl
theorem errV_pos(ea:Nat→Addr){k:Nat}(h:k≠0):errV ea k=.iface 346 (.pointer (some (ea k))):=by simp[errV,h]
def fltV(b:Nat):Value:=.iface 113 (.pointer (some ⟨b,0,none⟩))
theorem nil_errV(ea:Nat→Addr){k:Nat}(h:k=0):Value.nilIface=errV ea k:=by rw[h];rfl
attribute [irreducible] errV
def Glob(w:World)(ea:Nat→Addr)(ks:List Nat):Prop:=∀k∈ks,gOf k<w.heap.size∧w.cell? ⟨gOf k,0,none⟩=some (errV ea k)
theorem Glob.below{w w':World}{ea:Nat→Addr}{ks:List Nat}(h:Glob w ea ks)(hb:Below w.heap.size w w'):Glob w' ea ks:=fun k hk=>
 ⟨Nat.lt_of_lt_of_le (h k hk).1 hb.size,(hb.cell (p:=⟨gOf k,0,none⟩) (h k hk).1).trans (h k hk).2⟩
theorem Glob.lt{w:World}{ea:Nat→Addr}{ks:List Nat}(h:Glob w ea ks)(k:Nat)(hk:k∈ks):gOf k<w.heap.size:=(h k hk).1
theorem Glob.cell{w:World}{ea:Nat→Addr}{ks:List Nat}(h:Glob w ea ks)(k:Nat)(hk:k∈ks):w.cell? ⟨gOf k,0,none⟩=some (errV ea k):=(h k hk).2
theorem Glob.sub{w:World}{ea:Nat→Addr}{ks ls:List Nat}(h:Glob w ea ks)(hs:∀k∈ls,k∈ks):Glob w ea ls:=fun k hk=>h k (hs k hk)
def ErrIs(ea:Nat→Addr)(w:World)(v:Value)(code:Nat)(pl:Int):Prop:=
 (pl=-1∧v=errV ea code)∨(0≤pl∧code≠0∧∃b,v=fltV b∧b<w.heap.size∧w.cell? ⟨b,0,none⟩=some (.int .i64 pl)∧w.cell? ⟨b,1,none⟩=some (errV ea code))
theorem ErrIs.below{ea:Nat→Addr}{w w':World}{v:Value}{code:Nat}{pl:Int}(h:ErrIs ea w v code pl)(hb:Below w.heap.size w w'):ErrIs ea w' v code pl:=by
 rcases h with h|⟨h0,h1,b,rfl,hlt,h2,h3⟩
 ·exact Or.inl h
 ·exact Or.inr ⟨h0,h1,b,rfl,Nat.lt_of_lt_of_le hlt hb.size,(hb.cell (p:=⟨b,0,none⟩) hlt).trans h2,(hb.cell (p:=⟨b,1,none⟩) hlt).trans h3⟩
theorem ErrIs.bare(ea:Nat→Addr)(w:World)(code:Nat):ErrIs ea w (errV ea code) code (-1):=Or.inl ⟨rfl,rfl⟩
theorem ErrIs.nil{ea:Nat→Addr}{w:World}{v:Value}{pl:Int}(h:ErrIs ea w v 0 pl):v=.nilIface:=by
 rcases h with⟨_,rfl⟩|⟨_,h,_⟩
 ·exact errV_zero ea
 ·exact absurd rfl h
theorem ErrIs.held{ea:Nat→Addr}{w:World}{v:Value}{code:Nat}{pl:Int}(h:ErrIs ea w v code pl)(hc:code≠0):∃t x,v=.iface t x:=by
 rcases h with⟨_,rfl⟩|⟨_,_,b,rfl,_⟩
 ·exact⟨_,_,errV_pos ea hc⟩
 ·exact⟨_,_,rfl⟩
structure Ent where
 slot:Int
 frm:Int
 heard:Bool
 value:Int
 deriving DecidableEq,Inhabited
def Ent.cells(e:Ent):List Value:=[.int .i64 e.slot,.int .i64 e.frm,.bool e.heard,.int .i64 e.value]
def encEnts(l:List Ent):List Value:=l.flatMap Ent.cells
def Ent.v(e:Ent):Value:=.agg #[.int .i64 e.slot,.int .i64 e.frm,.bool e.heard,.int .i64 e.value]
theorem encEnts_length(es:List Ent):(encEnts es).length=es.length*4:=by
 induction es with
 | nil=>rfl
 | cons e r ih=>simp only[encEnts,List.flatMap_cons,List.length_append,List.length_cons] at ih ⊢;rw[ih];simp[Ent.cells];omega
theorem encEnts_get(es:List Ent):∀(k:Nat) (hk:k<es.length) (j:Nat),j<4→(encEnts es)[k*4+j]?=(es[k].cells)[j]?:=by
 induction es with
 | nil=>intro k hk;simp at hk
 | cons e r ih=>
  intro k hk j hj;have e4:(e.cells).length=4:=rfl;simp only[encEnts,List.flatMap_cons]
  cases k with
  | zero=>rw[List.getElem?_append_left (by rw[e4];omega)];simp
  | succ k=>
   rw[List.getElem?_append_right (by rw[e4];omega),e4];have:=ih k (by simpa using hk) j hj;rw[show(k+1)*4+j-4=k*4+j by omega];simpa[encEnts] using this
theorem encEnts_drop(es:List Ent)(k:Nat):encEnts (es.drop k)=(encEnts es).drop (k*4):=by
 induction es generalizing k with
 | nil=>simp[encEnts]
 | cons e r ih=>
  cases k with
  | zero=>simp
  | succ k=>
   have e4:(e.cells).length=4:=rfl;have:=ih k;simp only[encEnts,List.flatMap_cons,List.drop_succ_cons] at this ⊢;rw[this,List.drop_append,e4,(show List.drop ((k+1)*4) e.cells=[] from List.drop_eq_nil_of_le (by rw[e4];omega)),List.nil_append,show(k+1)*4-4=k*4 by omega]
theorem RowAt.ent{w:World}{a:Option Addr}{es:List Ent}(h:RowAt w a (encEnts es))(k:Nat)(hk:k<es.length) :
 ∃b off,a=some ⟨b,off,none⟩∧b<w.heap.size∧w.cell? ⟨b,off+k*4,none⟩=some (.int .i64 es[k].slot)∧w.cell? ⟨b,off+k*4+1,none⟩=some (.int .i64 es[k].frm)
  ∧w.cell? ⟨b,off+k*4+2,none⟩=some (.bool es[k].heard)∧w.cell? ⟨b,off+k*4+3,none⟩=some (.int .i64 es[k].value):=by
 have hne:encEnts es≠[]:=fun e=>by have:=encEnts_length es;rw[e] at this;simp at this;omega
 obtain⟨b,off,rfl,hlt,hc⟩:=h.at hne;refine⟨b,off,rfl,hlt,?_,?_,?_,?_⟩
 ·have:=hc (k*4) _ (by rw[show k*4=k*4+0 by omega,encEnts_get es k hk 0 (by omega)];rfl);simpa using this
 ·have:=hc (k*4+1) _ (by rw[encEnts_get es k hk 1 (by omega)];rfl);simpa[Nat.add_assoc] using this
 ·have:=hc (k*4+2) _ (by rw[encEnts_get es k hk 2 (by omega)];rfl);simpa[Nat.add_assoc] using this
 ·have:=hc (k*4+3) _ (by rw[encEnts_get es k hk 3 (by omega)];rfl);simpa[Nat.add_assoc] using this
end Go.Proofs.YtppfkokfnoeopaaGreatDoor
namespace Go.Proofs.YtppfkokfnoeopaaGreatDoor
def nodeB(n:Int):Bool:=decide (1≤n∧n≤16)
def numB(v:Int):Bool:=decide (-1048576≤v∧v≤1048576)
def crewB(c:Int):Bool:=decide (0≤c∧c≤65535)
def bitOf(n:Int):Nat:=2^(n.toNat-1)
def hasB(c n:Int):Bool:=crewB c&&(nodeB n&&c.toNat.testBit (n.toNat-1))
def crewOf(l:List Int):Nat:=l.foldl (fun c n=>c|||bitOf n) 0
theorem bitOf_lt{n:Int}(h:nodeB n=true):bitOf n<65536:=by
 simp only[nodeB,decide_eq_true_eq] at h;have:n.toNat-1<16:=by omega
 exact Nat.pow_lt_pow_right (by omega) this
theorem ofInt_nat(a:Nat)(ha:a<9223372036854775808):(BitVec.ofInt 64 (a:Int)).toNat=a:=by
 rw[BitVec.ofInt_natCast,BitVec.toNat_ofNat];exact Nat.mod_eq_of_lt (by omega)
theorem and_nat(a b:Nat)(ha:a<9223372036854775808)(hb:b<9223372036854775808):bits .and .i64 (a:Int) (b:Int)=((a&&&b:Nat):Int):=by
 have hx:a&&&b<2^63:=Nat.and_lt_two_pow _ (by omega)
 show IntKind.i64.wrap ((BitVec.ofInt 64 (a:Int)&&&BitVec.ofInt 64 (b:Int)).toNat:Int)=_
 rw[BitVec.toNat_and,ofInt_nat a ha,ofInt_nat b hb,IntKind.wrap_i64];omega
theorem or_nat(a b:Nat)(ha:a<9223372036854775808)(hb:b<9223372036854775808):bits .or .i64 (a:Int) (b:Int)=((a|||b:Nat):Int):=by
 have hx:a|||b<2^63:=Nat.or_lt_two_pow (by omega) (by omega)
 show IntKind.i64.wrap ((BitVec.ofInt 64 (a:Int)|||BitVec.ofInt 64 (b:Int)).toNat:Int)=_
 rw[BitVec.toNat_or,ofInt_nat a ha,ofInt_nat b hb,IntKind.wrap_i64];omega
theorem and_bit(c k:Nat):c&&&2^k=if c.testBit k then 2^k else 0:=by
 apply Nat.eq_of_testBit_eq;intro i;rw[Nat.testBit_and,Nat.testBit_two_pow]
 by_cases h:k=i
 ·subst h;cases hc:c.testBit k<;>simp
 ·cases hc:c.testBit k<;>simp[h]
theorem crewOf_fold_lt(l:List Int):∀c:Nat,c<65536→(∀n∈l,nodeB n=true)→l.foldl (fun c n=>c|||bitOf n) c<65536:=by
 induction l with
 | nil=>intro c h _;exact h
 | cons n r ih=>
  intro c hc hn;exact ih _ (Nat.or_lt_two_pow (n:=16) hc (bitOf_lt (hn n (by simp)))) (fun m hm=>hn m (List.mem_cons_of_mem _ hm))
theorem crewOf_lt{l:List Int}(h:∀n∈l,nodeB n=true):crewOf l<65536:=crewOf_fold_lt l 0 (by omega) h
theorem testBit_fold(l:List Int)(i:Nat):∀c:Nat,(l.foldl (fun c n=>c|||bitOf n) c).testBit i=(c.testBit i||l.any fun n=>decide (n.toNat-1=i)):=by
 induction l with
 | nil=>intro c;simp
 | cons n r ih=>
  intro c;simp only[List.foldl_cons,List.any_cons];rw[ih,Nat.testBit_or,bitOf,Nat.testBit_two_pow,Bool.or_assoc]
theorem hasB_crewOf{l:List Int}(h:∀n∈l,nodeB n=true)(m:Int):hasB (crewOf l) m=decide (m∈l):=by
 have hl:=crewOf_lt h;have hc:crewB ((crewOf l:Nat):Int)=true:=by simp only[crewB,decide_eq_true_eq];omega
 simp only[hasB,hc,Bool.true_and]
 by_cases hm:m∈l
 ·have hnm:=h m hm
  simp only[hnm,Bool.true_and,hm,decide_true];rw[Int.toNat_natCast,crewOf,testBit_fold];simp only[Nat.zero_testBit,Bool.false_or,List.any_eq_true,decide_eq_true_eq];exact⟨m,hm,rfl⟩
 ·simp only[hm,decide_false]
  cases hnm:nodeB m
  ·rfl
  ·rw[Bool.true_and,Int.toNat_natCast,crewOf,testBit_fold]
   simp only[Nat.zero_testBit,Bool.false_or];rw[List.any_eq_false];intro n hn;simp only[decide_eq_true_eq];intro e;have hnn:=h n hn;simp only[nodeB,decide_eq_true_eq] at hnm hnn;exact hm ((show m=n by omega)▸hn)
end Go.Proofs.YtppfkokfnoeopaaGreatDoor
namespace Go.Proofs.YtppfkokfnoeopaaGreatDoor
open Go.RowKit
theorem node_any(n:Int)(w:World):Calls Tryz.prog 154 #[.int .i64 n] w fun e w'=>e=.returned (.bool (nodeB n))∧w=w':=by
 go_enter Tryz.func154,Tryz.ntmps154;go_wp2
 all_goals(go_ret;exact⟨ret_bool (by simp[nodeB];try omega),rfl⟩)
section
variable {P:Program} (w:World)
def Moved(w:World)(v v':Value):Prop:=v'.ownBlock=v.ownBlock∨∃k,w.heap.size≤k∧v'.ownBlock=some k
theorem run_append_own2(base:Nat)(t ty e:TypeId)(i:TypeInfo)(z:Value)(size bytes:Nat)(ht:P.underlying t=some (.slice e))(hi:P.info? e=some i)(hz:i.zero=some z)
 (hsize:i.size=size) (hby:i.bytes=bytes) (hzs:z.cells.size=size) (hsz:0<size)
 (v:Value) (n:Nat) (xs:List Value) (hown:w.ownsRow base e size v n xs)
 (sa:Option Addr) (m c:Nat) (news:List Value) (hl:news.length=m*size) (hnews:RowAt w sa news) (h1:∀u∈news,u.oneCell'=true)
 (h63:n+m≤maxLen) (hbytes:(n+m)*bytes≤140737488355328) (hbase:base≤w.heap.size) :
 ∃v' w',(Builtin.append_ #[t,t] ty #[v,.slice sa m c]).run P w=.ok v' w'∧w'.ownsRow base e size v' (n+m) (xs++news)∧w.grownBy w' v.ownBlock ∧
  (v'=.slice none 0 0↔v=.slice none 0 0∧m=0)∧Moved w v v':=by
 by_cases hm:m=0
 ·subst hm
  have hn:news=[]:=List.eq_nil_of_length_eq_zero (by simpa using hl);subst hn;refine⟨v,w,?_,by simpa using hown,⟨rfl,rfl,rfl,Nat.le_refl _,fun _ _ _=>rfl⟩,by simp,Or.inl rfl⟩
  rcases hown.2 with⟨rfl,rfl⟩|⟨g,cap,cur,rfl,hbg,hg,hnc,hcm,hcs,htake⟩
  ·cases sa<;>simp[Builtin.append_,run_underlying ht,sizeOf,typeInfo,hi,Builtin.lenOf,Builtin.firstCells,loadCells,loadCellsFrom]
  ·cases sa<;>simp[Builtin.append_,run_underlying ht,sizeOf,typeInfo,hi,Builtin.lenOf,Builtin.firstCells,loadCells,loadCellsFrom,hnc,storeCells]
 have hne:news≠[]:=fun e0=>by
  rw[e0] at hl;have:=Nat.pos_of_ne_zero hm;have:=Nat.mul_pos this hsz;simp at hl;omega
 obtain⟨b,off,rfl,_,hc⟩:=hnews.at hne
 have hnews':∀j u,news[j]?=some u→w.cell? ((⟨b,off,none⟩:Addr).add j)=some u:=fun j u hu=>by
  have hadd:(⟨b,off,none⟩:Addr).add j=⟨b,off+j,none⟩:=by unfold Addr.add;split<;>simp_all
  rw[hadd];exact hc j u hu
 clear hc hnews;obtain⟨v',w',hr,h2,h3,h4⟩:=run_append_own (P:=P) w base t ty e i z size bytes ht hi hz hsize hby hzs hsz v n xs hown ⟨b,off,none⟩ m c news hl hnews' h1 h63 hbytes hbase;refine⟨v',w',hr,h2,h3,h4,?_⟩;subst hsize;subst hby
 have hsmall:n+m≤9223372036854775807:=by simp only[maxLen] at h63;omega
 rcases hown.2 with⟨rfl,rfl⟩|⟨g,cap,cur,rfl,hbg,hg,hnc,hcm,hcs,htake⟩
 ·have hx:xs=[]:=List.eq_nil_of_length_eq_zero (by simpa using hown.1)
  subst hx;have hr2:=run_append_nil (P:=P) w t ty e i z ht hi hz ⟨b,off,none⟩ m c news hl hnews' (by omega) (by omega) (by have hb:=hbytes;simp only[Nat.zero_add] at hb;omega);rw[hr] at hr2;injection hr2 with e1 e2;subst e1;exact Or.inr ⟨w.heap.size,Nat.le_refl _,rfl⟩
 ·by_cases hroom:n+m≤cap
  ·have hfit:n*i.size+news.length≤cur.size:=by rw[hl,hcs,←Nat.add_mul];exact Nat.mul_le_mul_right _ hroom
   have hr2:=run_append_room (P:=P) w t ty e i ht hi g n cap cur hg ⟨b,off,none⟩ m c news hl hnews' h1 hroom hfit;rw[hr] at hr2;injection hr2 with e1 e2;subst e1;exact Or.inl rfl
  ·have holds:∀j u,xs[j]?=some u→w.cell? ((⟨g,0,none⟩:Addr).add j)=some u:=hown.cells (g:=g) rfl
   have hr2:=run_append_grow (P:=P) w t ty e i z ht hi hz ⟨g,0,none⟩ n cap xs hown.1 holds ⟨b,off,none⟩ m c news hl hnews' (by omega) (by omega) (growslice_fits (by omega) hbytes);rw[hr] at hr2;injection hr2 with e1 e2;subst e1;exact Or.inr ⟨w.heap.size,Nat.le_refl _,rfl⟩
theorem wpList_append2{ops:Array Oper}{rest:List Oper}{o:Oper}{a:Act}{Q:Exit→Act→World→Prop}(hgd:o.guard=none)(s x:Operand)(t:TypeId)
 (ho:o.op=.call { callee:=.builtin .append,args:=#[s,x],argTypes:=#[t,t] })
 (base:Nat) (e:TypeId) (i:TypeInfo) (z:Value) (size bytes:Nat) (ht:P.underlying t=some (.slice e)) (hi:P.info? e=some i) (hz:i.zero=some z)
 (hsize:i.size=size) (hby:i.bytes=bytes) (hzs:z.cells.size=size) (hsz:0<size)
 (v:Value) (n:Nat) (xs:List Value) (hs:a.eval s=v) (hown:w.ownsRow base e size v n xs)
 (sa:Option Addr) (m c:Nat) (news:List Value) (hx:a.eval x=.slice sa m c) (hl:news.length=m*size) (hnews:RowAt w sa news) (h1:∀u∈news,u.oneCell'=true)
 (h63:n+m≤maxLen) (hbytes:(n+m)*bytes≤140737488355328) (hbase:base≤w.heap.size)
 (h:∀v' w',w'.ownsRow base e size v' (n+m) (xs++news)→w.grownBy w' v.ownBlock→(v'=.slice none 0 0↔v=.slice none 0 0∧m=0)→Moved w v v'→wpList P ops Q rest (a.put o.dst v') w'):wpList P ops Q (o::rest) a w:=
 wpList_plain hgd fun K hK=>by
  obtain⟨v',w',hr,h2,h3,h4,h5⟩:=run_append_own2 (P:=P) w base t o.type e i z size bytes ht hi hz hsize hby hzs hsz v n xs hown sa m c news hl hnews h1 h63 hbytes hbase;unfold Oper.wp execOp;simp only[ho,resolve,invoke,builtin,Sem.run_bind,Sem.run_pure,Result.andThen_ok,List.map_toArray,List.map_cons,List.map_nil,hs,hx,hr];exact hK _ _ (h v' w' h2 h3 h4 h5)
end
theorem RowAt.new_at(w:World)(cs:List Value)(t:TypeId)(n:Nat)(hn:n=w.heap.size):RowAt (w.alloc (.cells cs.toArray t)) (some ⟨n,0,none⟩) cs:=
 Or.inr ⟨n,0,rfl,by simp[hn],fun i v hv=>by rw[World.cell?_alloc_at _ _ _ _ hn];simpa using hv⟩
theorem grown_cell{W w':World}{row:Option Nat}(hg:W.grownBy w' row){b i:Nat}{v:Value}(hc:W.cell? ⟨b,i,none⟩=some v)(hne:some b≠row):w'.cell? ⟨b,i,none⟩=some v:=hg.cell hc hne
theorem encEnts_snoc(xs:List Ent)(e:Ent):encEnts (xs++[e])=encEnts xs++e.cells:=by simp[encEnts]
theorem Ent.one(e:Ent):∀u∈e.cells,u.oneCell'=true:=by
 intro u hu;simp[Ent.cells] at hu;rcases hu with rfl|rfl|rfl|rfl<;>rfl
theorem RowAt.owned{w:World}{base:Nat}{e:TypeId}{size:Nat}{a:Option Addr}{n n' cap:Nat}{xs:List Value}(h:w.ownsRow base e size (.slice a n' cap) n xs):RowAt w a xs∧n'=n∧n≤cap∧cap≤maxLen:=by
 obtain⟨hl,h⟩:=h
 rcases h with⟨h,rfl⟩|⟨g,cap',cur,h,_,hg,hc,hm,hs,ht⟩
 ·injection h with h1 h2 h3
  subst h1;subst h2;subst h3;exact⟨Or.inl (List.eq_nil_of_length_eq_zero (by simpa using hl)),rfl,Nat.le_refl _,by simp[maxLen]⟩
 ·injection h with h1 h2 h3
  subst h1;subst h2;subst h3;refine⟨Or.inr ⟨g,0,rfl,(Array.getElem?_eq_some_iff.1 hg).1,fun i v hv=>?_⟩,rfl,hc,hm⟩;rw[←ht,List.getElem?_take] at hv
  split at hv
  ·rw[Nat.zero_add,cell_of_row w g i cur e (0,0) hg];simpa using hv
  ·cases hv
theorem owned_shape{w:World}{base:Nat}{e:TypeId}{size:Nat}{v:Value}{n:Nat}{xs:List Value}(h:w.ownsRow base e size v n xs):∃a cap,v=.slice a n cap:=by
 rcases h.2 with⟨rfl,rfl⟩|⟨g,cap,cur,rfl,_⟩
 ·exact⟨_,_,rfl⟩
 ·exact⟨_,_,rfl⟩
section
variable {α β:Type}
theorem flat_length(f:α→List β)(q:Nat)(hq:∀x,(f x).length=q)(l:List α):(l.flatMap f).length=l.length*q:=by
 induction l with
 | nil=>simp
 | cons e r ih=>simp only[List.flatMap_cons,List.length_append,List.length_cons,ih,hq];rw[Nat.add_mul];omega
theorem flat_get(f:α→List β)(q:Nat)(hq:∀x,(f x).length=q)(l:List α):∀(k:Nat) (hk:k<l.length) (j:Nat),j<q→(l.flatMap f)[k*q+j]?=(f l[k])[j]?:=by
 induction l with
 | nil=>intro k hk;simp at hk
 | cons e r ih=>
  intro k hk j hj;simp only[List.flatMap_cons]
  cases k with
  | zero=>rw[List.getElem?_append_left (by rw[hq];omega)];simp
  | succ k=>
   have e1:(k+1)*q=k*q+q:=by rw[Nat.add_mul];omega
   rw[List.getElem?_append_right (by rw[hq,e1];omega),hq,show(k+1)*q+j-q=k*q+j by rw[e1];omega];have:=ih k (by simpa using hk) j hj;simpa using this
end
theorem RowAt.flat{α:Type}{f:α→List Value}{w:World}{a:Option Addr}{l:List α}(h:RowAt w a (l.flatMap f))(q:Nat)(hq:∀x,(f x).length=q)(h0:0<q)(k:Nat)(hk:k<l.length) :
 ∃b off,a=some ⟨b,off,none⟩∧b<w.heap.size∧∀j v,(f l[k])[j]?=some v→w.cell? ⟨b,off+k*q+j,none⟩=some v:=by
 have hne:l.flatMap f≠[]:=fun e=>by
  have:=flat_length f q hq l;rw[e] at this;have:=Nat.mul_pos (show 0<l.length by omega) h0;simp at *;omega
 obtain⟨b,off,rfl,hlt,hc⟩:=h.at hne;refine⟨b,off,rfl,hlt,fun j v hv=>?_⟩;have hj:j<q:=by rw[←hq l[k]];exact(List.getElem?_eq_some_iff.1 hv).1
 rw[Nat.add_assoc];exact hc _ _ (by rw[flat_get f q hq l k hk j hj];exact hv)
theorem encInts_one(l:List Int):∀u∈encInts l,u.oneCell'=true:=by
 intro u hu;obtain⟨s,_,rfl⟩:=List.mem_map.1 hu;rfl
structure Snt where
 node:Int
 tick:Int
 text:ByteArray
def Snt.cells(s:Snt):List Value:=[.int .i64 s.node,.int .i64 s.tick,.string s.text]
theorem Snt.len(s:Snt):s.cells.length=3:=rfl
theorem Snt.one(s:Snt):∀u∈s.cells,u.oneCell'=true:=by
 intro u hu;simp[Snt.cells] at hu;rcases hu with rfl|rfl|rfl<;>rfl
theorem encInts_snoc(xs:List Int)(s:Int):encInts (xs++[s])=encInts xs++[.int .i64 s]:=by simp[encInts]
theorem below_grows{w w':World}(hb:Below w.heap.size w w')(row:Option Nat):w.grownBy w' row:=⟨hb.os,hb.tape,hb.output,hb.size,fun b h _=>hb.block b h⟩
theorem setCell_grows(w:World)(b i:Nat)(u:Value):w.grownBy (w.setCell ⟨b,i,none⟩ u) (some b):=⟨rfl,rfl,rfl,by simp,fun k _ hk=>heap_setCell_other w ⟨b,i,none⟩ k u (fun e=>hk (by simp[e]))⟩
theorem ownsRow_below{w w':World}{base:Nat}{e:TypeId}{size:Nat}{v:Value}{n:Nat}{xs:List Value}(h:w.ownsRow base e size v n xs)(hb:Below w.heap.size w w'):w'.ownsRow base e size v n xs:=
 h.kept (below_grows hb none) (by cases v.ownBlock<;>simp)
theorem ownsRow_rebase{w:World}{base base':Nat}{e:TypeId}{size:Nat}{v:Value}{n:Nat}{xs:List Value}(h:w.ownsRow base e size v n xs)(hb:base'≤base):w.ownsRow base' e size v n xs:=by
 refine⟨h.1,?_⟩
 rcases h.2 with h|⟨g,cap,cur,h1,h2,h3⟩
 ·exact Or.inl h
 ·exact Or.inr ⟨g,cap,cur,h1,Nat.le_trans hb h2,h3⟩
def Blok(W:World)(b:Nat)(t:TypeId)(cs:Array Value):Prop:=W.heap[b]?=some (.cells cs t (0,0))
theorem Blok.new(W:World)(t:TypeId)(cs:Array Value):Blok (W.alloc (.cells cs t)) W.heap.size t cs:=World.alloc_heap_new W _
theorem Blok.lt{W:World}{b:Nat}{t:TypeId}{cs:Array Value}(h:Blok W b t cs):b<W.heap.size:=(Array.getElem?_eq_some_iff.1 h).1
theorem Blok.kept{W W':World}{b:Nat}{t:TypeId}{cs:Array Value}(h:Blok W b t cs)(hb:Below W.heap.size W W'):Blok W' b t cs:=(hb.block b h.lt).trans h
theorem Blok.alloc{W:World}{b:Nat}{t:TypeId}{cs:Array Value}(h:Blok W b t cs)(o:Obj):Blok (W.alloc o) b t cs:=h.kept ((Below.refl _ _).alloc (Nat.le_refl _) _)
theorem Blok.cell{W:World}{b:Nat}{t:TypeId}{cs:Array Value}(h:Blok W b t cs)(i:Nat){v:Value}(hv:cs[i]?=some v):W.cell? ⟨b,i,none⟩=some v:=by
 simp only[World.cell?,show W.heap[b]?=_ from h];exact hv
theorem Blok.frozen{W:World}{b:Nat}{t:TypeId}{cs:Array Value}(h:Blok W b t cs)(i:Nat):W.frozen? ⟨b,i,none⟩=false:=by simp[World.frozen?,show W.heap[b]?=_ from h]
theorem Blok.setOther{W:World}{b:Nat}{t:TypeId}{cs:Array Value}(h:Blok W b t cs){c:Nat}(o:Nat)(v:Value)(hne:b≠c):Blok (W.setCell ⟨c,o,none⟩ v) b t cs:=
 (heap_setCell_other _ _ _ _ (by simpa using hne)).trans h
theorem Blok.set{W:World}{b:Nat}{t:TypeId}{cs:Array Value}(h:Blok W b t cs)(o:Nat)(v:Value):Blok (W.setCell ⟨b,o,none⟩ v) b t (cs.setIfInBounds o v):=by
 have h':W.heap[b]?=_:=h;unfold Blok World.setCell;simp[Array.getElem?_modify,h']
theorem info_int:(Tryz.prog.info? 3).map (fun i=>(i.zero,i.size,i.bytes))=some (some (.int .i64 0),1,8):=by kernel_rfl
def encTexts(l:List (List UInt8)):List Value:=l.map fun x=>Value.string ⟨x.toArray⟩
theorem ct_info_string:(Tryz.prog.info? 9).map (fun i=>(i.zero,i.size,i.bytes))=some (some (.string ByteArray.empty),1,16):=by kernel_rfl
end Go.Proofs.YtppfkokfnoeopaaGreatDoor
